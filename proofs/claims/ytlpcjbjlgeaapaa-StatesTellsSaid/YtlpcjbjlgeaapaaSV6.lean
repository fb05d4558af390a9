/- Plain lemmas about the specification functions. Conditions: in each lemma. -/
import Derived.Test.YtlpcjbjlgeaapaaSV5
set_option linter.all false
namespace Go.Proofs.Ytlpcjbjlgeaapaa
open Go Go.Sv Go.Pu

theorem rowAt_succ (s : Numbering_Size) (a : Int) (t : Nat) : rowAt s a (t + 1) = rowAt s a t ++ [states_at s a (t : Int)] := by
  unfold rowAt
  rw [List.range_succ, List.map_append]
  rfl
theorem rowAt_len (s : Numbering_Size) (a : Int) (t : Nat) : (rowAt s a t).length = t := by simp [rowAt]

theorem v57_61 (n : Int) (s : Numbering_Size) (a : Int) (h : preEachC n s a) : VC57_61 n s a (fun r => r = states_each_int_states_Clauses_1 n s a) := by
  obtain ⟨h0, h1⟩ := h
  unfold VC57_61
  obtain ⟨k, hk⟩ := Int.eq_ofNat_of_zero_le h0
  subst hk
  simp only [Int.toNat_natCast, List.length_replicate, decide_eq_true_eq, decide_eq_false_iff_not]
  refine ⟨by omega, fun out x => ∃ t : Nat, x = t ∧ t ≤ k ∧ out = rowAt s a t ++ List.replicate (k - t) 0, fun _ x => (k - x).toNat, ⟨0, rfl, by omega, by simp [rowAt]⟩, ?_⟩
  rintro _ _ ⟨t, rfl, ht, rfl⟩
  refine ⟨fun hx r hr => ?_, fun hx => ?_⟩
  · subst hr
    have hx : t < k := by omega
    rw [wrp (by omega) (by omega)]
    have hl := rowAt_len s a t
    refine ⟨⟨by omega, by simp [hl]; omega⟩, ⟨t + 1, by simp, by omega, ?_⟩, by dsimp only; omega⟩
    rw [show k - t = (k - (t + 1)) + 1 by omega, List.replicate_succ, set_mid _ _ _ _ (by simp [hl]), rowAt_succ]
    simp [states_Clauses_1]
  · have : t = k := by omega
    subst this
    unfold VC57_61_J1 states_each_int_states_Clauses_1
    simp

theorem blk_len {s : Numbering_Size} (h : numbering_Check s = 0) (a : Nat) : (blk s a).length ≤ 1025 := by
  obtain ⟨h0, h1, h2, h3⟩ := check0 h
  have h1 := most_len (rowAt s (a : Int) s.States.toNat)
  rw [rowAt_len] at h1
  have h2 : s.States.toNat * s.States.toNat ≤ 32 * 32 := Nat.mul_le_mul (by omega) (by omega)
  unfold blk
  rw [List.length_cons]
  omega
theorem blks_len {s : Numbering_Size} (h : numbering_Check s = 0) (t : Nat) : ((List.range t).flatMap (blk s)).length ≤ 1025 * t := by
  induction t with
  | zero => simp
  | succ t ih =>
    have := blk_len h t
    rw [List.range_succ, List.flatMap_append, List.length_append]
    simp only [List.flatMap_cons, List.flatMap_nil, List.append_nil]
    omega

theorem blks_succ (s : Numbering_Size) (t : Nat) : (List.range (t + 1)).flatMap (blk s) = (List.range t).flatMap (blk s) ++ blk s t := by
  rw [List.range_succ, List.flatMap_append]; simp

theorem v32 (s : Numbering_Size) (init : Int) : VC32 s init (fun r => r = states_Clauses s init) := by
  unfold VC32
  intro r hr
  subst hr
  simp only [Bool.or_eq_true, decide_eq_true_eq, Bool.or_eq_false_iff, decide_eq_false_iff_not, bne_iff_ne, bne_eq_false_iff_eq]
  refine ⟨fun h => ?_, fun h => ?_⟩
  · unfold states_Clauses; rw [if_neg (by omega)]
  · obtain ⟨⟨hc, hi0⟩, hi1⟩ := h
    obtain ⟨h0, h1, h2, h3⟩ := check0 hc
    intro r hr
    subst hr
    rw [wrp (n := s.Ops + 1) (by omega) (by omega)]
    refine ⟨fun out x => ∃ t : Nat, x = t ∧ (t : Int) ≤ s.Ops + 1 ∧ out = [states_at s 0 init] :: (List.range t).flatMap (blk s), fun _ x => (s.Ops + 1 - x).toNat, ⟨0, rfl, by omega, by simp⟩, ?_⟩
    rintro _ _ ⟨t, rfl, ht, rfl⟩
    have hl := blks_len hc t
    refine ⟨fun hx => ⟨⟨by omega, by omega⟩, fun r hr _ => ?_⟩, fun hx => ?_⟩
    · subst hr
      have hr := rowAt_len s (t : Int) s.States.toNat
      unfold states_each_int_states_Clauses_1
      have hm := most_len (rowAt s (t : Int) s.States.toNat)
      rw [hr] at hm
      have h4 : s.States.toNat * s.States.toNat ≤ 32 * 32 := Nat.mul_le_mul (by omega) (by omega)
      refine ⟨by simp only [List.length_append, List.length_cons, List.length_nil]; omega, by unfold preMost; omega, fun r hr _ => ?_⟩
      subst hr
      unfold places_Most
      rw [wrp (by omega) (by omega)]
      refine ⟨by simp only [List.length_append, List.length_cons, List.length_nil]; omega, ⟨t + 1, by simp, by omega, ?_⟩, by dsimp only; omega⟩
      rw [blks_succ]
      simp [blk]
    · have : (s.Ops + 1).toNat = t := by omega
      unfold VC32_J1 states_Clauses
      rw [if_pos ⟨hc, by omega, by omega⟩, this]

theorem state_eq {o s a b : Int} (hc : ref31_Check o s = 0) (ha : 0 ≤ a) (ha1 : a ≤ o) (hb : 0 ≤ b) (hb1 : b < s) : ref31_State o s a b = states_at ⟨o, s⟩ a b := by
  obtain ⟨e, _⟩ := at_eq (s := ⟨o, s⟩) hc ha ha1 hb hb1
  rw [e]
  obtain ⟨h0, h1, h2, h3⟩ := check0 hc
  have hm := mulb h0 h1 h0 h1
  have hn := mulb (a := a) (b := s) ha (by omega : a ≤ 64) (by omega) h3
  unfold ref31_State
  dsimp only
  rw [wrp (n := o * o) (by omega) (by omega), wrp (n := a * s) (by omega) (by omega), wrp (n := o * o + o) (by omega) (by omega), wrp (n := o * o + o + a * s) (by omega) (by omega), wrp (n := o * o + o + a * s + b) (by omega) (by omega), wrp (by omega) (by omega)]

theorem v33 (o s init : Int) : VC33 o s init (fun r => r = ref34_Clauses o s init) := by
  unfold VC33
  intro r hr
  subst hr
  simp only [Bool.or_eq_true, decide_eq_true_eq, Bool.or_eq_false_iff, decide_eq_false_iff_not, bne_iff_ne, bne_eq_false_iff_eq]
  refine ⟨fun h => ?_, fun h => ?_⟩
  · unfold ref34_Clauses states_Clauses; rw [if_neg]; intro hh; have h4 : ref31_Check o s = 0 := hh.1
    dsimp only at hh; omega
  · obtain ⟨⟨hc, hi0⟩, hi1⟩ := h
    have hc' : numbering_Check ⟨o, s⟩ = 0 := hc
    obtain ⟨h0, h1, h2, h3⟩ := check0 hc
    intro r hr
    subst hr
    rw [state_eq hc (by omega) (by omega) (by omega) (by omega)]
    refine ⟨by simp, fun out x => ∃ t : Nat, x = t ∧ (t : Int) ≤ o + 1 ∧ out = [states_at ⟨o, s⟩ 0 init] :: (List.range t).flatMap (blk ⟨o, s⟩), fun _ x => (o + 1 - x).toNat, ⟨0, rfl, by omega, by simp⟩, ?_⟩
    rintro _ _ ⟨t, rfl, ht, rfl⟩
    have hl := blks_len hc' t
    refine ⟨fun hx => ?_, fun hx => ?_⟩
    · refine ⟨fun out l b => ∃ u : Nat, b = u ∧ (u : Int) ≤ s ∧ l = rowAt ⟨o, s⟩ t u ∧ out = [states_at ⟨o, s⟩ 0 init] :: (List.range t).flatMap (blk ⟨o, s⟩), fun _ _ b => (s - b).toNat, ⟨0, rfl, by omega, by simp [rowAt], rfl⟩, ?_⟩
      rintro _ _ _ ⟨u, rfl, hu, rfl, rfl⟩
      have hlu := rowAt_len ⟨o, s⟩ (t : Int) u
      refine ⟨fun hb r hr => ?_, fun hb => ?_⟩
      · subst hr
        rw [state_eq hc (by omega) (by omega) (by omega) (by omega), wrp (by omega) (by omega)]
        refine ⟨by simp only [List.length_append, List.length_cons, List.length_nil]; omega, ⟨u + 1, by simp, by omega, ?_, rfl⟩, by dsimp only; omega⟩
        rw [rowAt_succ]
      · have hus : u = s.toNat := by omega
        subst hus
        have hm := most_len (rowAt ⟨o, s⟩ (t : Int) s.toNat)
        rw [hlu] at hm
        have h4 : s.toNat * s.toNat ≤ 32 * 32 := Nat.mul_le_mul (by omega) (by omega)
        unfold VC33_J2
        refine ⟨by simp only [List.length_append, List.length_cons, List.length_nil]; omega, by unfold preMost; omega, fun r hr _ => ?_⟩
        subst hr
        unfold ref32_Most
        rw [wrp (by omega) (by omega)]
        refine ⟨by simp only [List.length_append, List.length_cons, List.length_nil]; omega, ⟨t + 1, by simp, by omega, ?_⟩, by dsimp only; omega⟩
        rw [blks_succ]
        simp [blk]
    · have : (o + 1).toNat = t := by omega
      unfold VC33_J1 ref34_Clauses states_Clauses
      rw [if_pos ⟨hc', by omega, by dsimp only; omega⟩, this]
end Go.Proofs.Ytlpcjbjlgeaapaa
