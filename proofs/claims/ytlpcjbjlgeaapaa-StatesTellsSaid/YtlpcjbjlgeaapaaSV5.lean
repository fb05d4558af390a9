/- Plain lemmas about the specification functions. Conditions: in each lemma. -/
import Derived.Test.YtlpcjbjlgeaapaaSV4
set_option linter.all false
namespace Go.Proofs.Ytlpcjbjlgeaapaa
open Go Go.Sv Go.Pu

theorem at_eq {s : Numbering_Size} {a b : Int} (hc : numbering_Check s = 0) (ha : 0 ≤ a) (ha1 : a ≤ s.Ops) (hb : 0 ≤ b) (hb1 : b < s.States) :
    states_at s a b = s.Ops * s.Ops + s.Ops + a * s.States + b + 1 ∧ 1 ≤ states_at s a b ∧ states_at s a b ≤ numbering_Vars s ∧ numbering_Vars s ≤ 10000 := by
  obtain ⟨h0, h1, h2, h3⟩ := check0 hc
  have hm := mulb h0 h1 h0 h1
  have hn := mulb (a := a) (b := s.States) ha (by omega : a ≤ 64) (by omega) h3
  have hk : a * s.States ≤ s.Ops * s.States := Int.mul_le_mul_of_nonneg_right ha1 (by omega)
  have hv : numbering_Vars s = s.Ops * s.Ops + s.Ops + (s.Ops * s.States + s.States) := by
    unfold numbering_Vars; rw [if_pos hc, Int.mul_add, Int.mul_comm s.States, Int.mul_one]
  have hz := mulb (a := s.Ops) (b := s.States) h0 h1 (by omega) h3
  have e : states_at s a b = s.Ops * s.Ops + s.Ops + a * s.States + b + 1 := by
    unfold states_at numbering_Var
    rw [if_pos]
    · simp [base, wide]
    · refine ⟨hc, by simp, by simp, ha, ?_, hb, ?_⟩
      · simp [tall]; omega
      · simpa [wide] using hb1
  rw [e, hv]
  omega

theorem trues_succ (s : Numbering_Size) (m : List Bool) (a : Int) (t : Nat) : trues s m a (t + 1) = trues s m a t ++ (if on s m a (t : Int) = true then [(t : Int)] else []) := by
  unfold trues
  rw [List.range_succ, List.map_append, List.filter_append]
  simp only [List.map_cons, List.map_nil, List.filter_cons, List.filter_nil]
  rfl

theorem trues_len (s : Numbering_Size) (m : List Bool) (a : Int) (t : Nat) : (trues s m a t).length ≤ t := by
  unfold trues
  refine Nat.le_trans (List.length_filter_le _ _) ?_
  simp

theorem v58 (a : Int) (s : Numbering_Size) (m : List Bool) (ok : Bool) (h : preRow1 a s m ok) : VC58 a s m ok (fun r => r = states_Row_1 a s m ok) := by
  obtain ⟨hc, hl, ha, ha1⟩ := h
  obtain ⟨h0, h1, h2, h3⟩ := check0 hc
  unfold VC58
  intro _
  refine ⟨fun st many x => ∃ t : Nat, x = t ∧ (t : Int) ≤ s.States ∧ st = (trues s m a t).getLastD 0 ∧ many = (trues s m a t).length, fun _ _ x => (s.States - x).toNat, ⟨0, rfl, by omega, rfl, rfl⟩, ?_⟩
  rintro _ _ _ ⟨t, rfl, ht, rfl, rfl⟩
  simp only [decide_eq_true_eq, decide_eq_false_iff_not]
  refine ⟨fun hx r hr => ?_, fun hx => ?_⟩
  · subst hr
    obtain ⟨e, e1, e2, e3⟩ := at_eq hc ha ha1 (b := (t : Int)) (by omega) hx
    have hlen := trues_len s m a t
    rw [wrp (n := states_at s a t - 1) (by omega) (by omega)]
    unfold VC58_J2
    rw [wrp (n := (t : Int) + 1) (by omega) (by omega), wrp (n := ((trues s m a t).length : Int) + 1) (by omega) (by omega)]
    refine ⟨by omega, fun hg => ?_, fun hg => ?_⟩
    · have hon : on s m a (t : Int) = true := hg
      refine ⟨⟨t + 1, by simp, by omega, ?_, ?_⟩, by dsimp only; omega⟩
      · rw [trues_succ, if_pos hon]; simp
      · rw [trues_succ, if_pos hon]; simp
    · have hon : ¬ on s m a (t : Int) = true := by
        have hg' : on s m a (t : Int) = false := hg
        simp [hg']
      refine ⟨⟨t + 1, by simp, by omega, ?_, ?_⟩, by dsimp only; omega⟩
      · rw [trues_succ, if_neg hon]; simp
      · rw [trues_succ, if_neg hon]; simp
  · have : s.States.toNat = t := by omega
    unfold VC58_J1 states_Row_1
    rw [this]
    congr 2
    rw [Bool.eq_iff_iff, beq_iff_eq, beq_iff_eq]
    omega

theorem set_mid {α : Type} (A r : List α) (b v : α) {n : Nat} (h : n = A.length) : (A ++ b :: r).set n v = A ++ v :: r := by
  subst h
  rw [List.set_append_right _ _ (Nat.le_refl _)]
  simp

theorem v57_58 (n : Int) (s : Numbering_Size) (m : List Bool) (ok : Bool) (h : preEach n s m ok) : VC57_58 n s m ok (fun r => r = states_each_int_states_Row_1 n s m ok) := by
  obtain ⟨hc, hl, rfl⟩ := h
  obtain ⟨h0, h1, h2, h3⟩ := check0 hc
  unfold VC57_58
  intro _
  obtain ⟨k, hk⟩ := Int.eq_ofNat_of_zero_le (by omega : 0 ≤ s.Ops + 1)
  rw [hk]
  have hkk : (Int.ofNat k).toNat = k := rfl
  simp only [Int.toNat_natCast, List.length_replicate, decide_eq_true_eq, decide_eq_false_iff_not]
  refine ⟨by omega, fun out x o => ∃ t : Nat, x = t ∧ t ≤ k ∧ out = (List.range t).map (lastOf s m) ++ List.replicate (k - t) 0 ∧ o = (ok && (List.range t).all (oneOf s m)), fun _ x _ => (k - x).toNat, ⟨0, rfl, by omega, by simp, by simp⟩, ?_⟩
  rintro _ _ _ ⟨t, rfl, ht, rfl, rfl⟩
  refine ⟨fun hx => ⟨⟨hc, hl, by omega, by omega⟩, fun r hr => ?_⟩, fun hx => ?_⟩
  · subst hr
    have hx : t < k := by omega
    rw [wrp (by omega) (by omega)]
    refine ⟨⟨by omega, by simp; omega⟩, ⟨t + 1, by simp, by omega, ?_, ?_⟩, by dsimp only; omega⟩
    · rw [show k - t = (k - (t + 1)) + 1 by omega, List.replicate_succ, set_mid _ _ _ _ (by simp)]
      rw [List.range_succ, List.map_append, List.append_assoc]
      simp [states_Row_1, lastOf]
    · rw [List.range_succ, List.all_append]
      simp [states_Row_1, oneOf, Bool.and_assoc]
  · have : t = k := by omega
    subst this
    unfold VC57_58_J1 states_each_int_states_Row_1
    simp

theorem v27 (s : Numbering_Size) (m : List Bool) : VC27 s m (fun r => r = states_Row s m) := by
  unfold VC27
  intro _ r hr
  subst hr
  refine ⟨fun h => ?_, fun h r hr => ?_⟩
  · have h : numbering_Check s ≠ 0 := by simpa using h
    simp [VC27_J1, states_Row, h]
  · subst hr
    have hc : numbering_Check s = 0 := by simpa using h
    obtain ⟨h0, h1, h2, h3⟩ := check0 hc
    unfold VC27_J1
    refine ⟨fun h => ?_, fun h => ?_⟩
    · have h : ¬ (m.length : Int) = numbering_Vars s := by simpa using h
      simp [states_Row, h]
    · have hl : (m.length : Int) = numbering_Vars s := by simpa using h
      rw [wrp (by omega) (by omega)]
      refine ⟨⟨hc, hl, rfl⟩, fun r hr _ => ?_⟩
      subst hr
      unfold states_each_int_states_Row_1 states_Row
      cases hb : (List.range (s.Ops + 1).toNat).all (oneOf s m) with
      | true => simp [hc, hl]
      | false => simp
end Go.Proofs.Ytlpcjbjlgeaapaa
