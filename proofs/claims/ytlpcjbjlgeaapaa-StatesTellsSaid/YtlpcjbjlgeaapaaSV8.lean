/- Plain lemmas about the specification functions. Conditions: in each lemma. -/
import Derived.Test.YtlpcjbjlgeaapaaSV7
set_option linter.all false
namespace Go.Proofs.Ytlpcjbjlgeaapaa
open Go Go.Sv Go.Pu

theorem lit_pos {m : List Bool} {l : Int} (h0 : 1 ≤ l) (h1 : l ≤ m.length) (h2 : l ≤ 100000) : litOf m l = gi m (l - 1) := by
  have e : ref01_Split l = (l, true) := by unfold ref01_Split; rw [if_pos (by omega)]
  unfold litOf
  rw [e]
  simp [show ¬ l = 0 by omega, h1]
theorem lit_neg {m : List Bool} {l : Int} (h0 : 1 ≤ l) (h1 : l ≤ m.length) (h2 : l ≤ 100000) : litOf m (negw l) = !gi m (l - 1) := by
  have e : ref01_Split (negw l) = (l, false) := by
    unfold negw
    rw [wrp (by omega) (by omega)]
    unfold ref01_Split; rw [if_neg (by omega), if_pos (by omega)]
    congr 1; omega
  unfold litOf
  rw [e]
  simp [show ¬ l = 0 by omega, h1]

def okl (m : List Bool) (l : Int) : Prop := 1 ≤ l ∧ l ≤ m.length ∧ l ≤ 100000
theorem holds_any {m : List Bool} {L : List Int} (hL : ∀ x ∈ L, okl m x) : ref02_Holds L m = L.any (fun x => gi m (x - 1)) := by
  unfold ref02_Holds
  induction L with
  | nil => rfl
  | cons x r ih =>
    obtain ⟨a, b, c⟩ := hL x (by simp)
    rw [List.any_cons, List.any_cons, lit_pos a b c, ih (fun y hy => hL y (by simp [hy]))]

theorem holds_most {m : List Bool} : ∀ {L : List Int}, (∀ x ∈ L, okl m x) → ((most L).all (fun c => ref02_Holds c m) = true ↔ (L.filter (fun x => gi m (x - 1))).length ≤ 1)
  | [], _ => by simp [most]
  | x :: r, hL => by
    obtain ⟨a, b, c⟩ := hL x (by simp)
    have ih := holds_most (L := r) (fun y hy => hL y (by simp [hy]))
    have e : (r.map (fun y => [negw x, negw y])).all (fun c => ref02_Holds c m) = true ↔ (gi m (x - 1) = true → r.filter (fun x => gi m (x - 1)) = []) := by
      rw [List.all_map, List.all_eq_true]
      constructor
      · intro h hx
        rw [List.filter_eq_nil_iff]
        intro y hy
        obtain ⟨a', b', c'⟩ := hL y (by simp [hy])
        have := h y hy
        simp only [Function.comp, ref02_Holds, List.any_cons, List.any_nil, lit_neg a b c, lit_neg a' b' c', hx] at this
        simpa using this
      · intro h y hy
        obtain ⟨a', b', c'⟩ := hL y (by simp [hy])
        simp only [Function.comp, ref02_Holds, List.any_cons, List.any_nil, lit_neg a b c, lit_neg a' b' c']
        cases hx : gi m (x - 1) with
        | false => rfl
        | true =>
          have := (List.filter_eq_nil_iff.mp (h hx)) y hy
          simpa using this
    rw [most, List.all_append, Bool.and_eq_true, e, ih, List.filter_cons]
    cases hx : gi m (x - 1) with
    | false => simp
    | true =>
      simp only [true_implies, if_true, List.length_cons]
      constructor
      · rintro ⟨h, _⟩; rw [h]; simp
      · intro h
        have h : (r.filter (fun x => gi m (x - 1))).length = 0 := by omega
        rw [List.length_eq_zero_iff] at h
        rw [h]; simp

theorem first_iff (n : Int) (c : List (List Int)) (m : List Bool) : ref04_First ⟨n, c⟩ m < 0 ↔ c.all (fun c => ref02_Holds c m) = true := by
  unfold ref04_First
  dsimp only
  cases h : c.findIdx? (fun c => !ref02_Holds c m) with
  | none =>
    rw [List.findIdx?_eq_none_iff] at h
    simp only [List.all_eq_true]
    constructor
    · intro _ x hx; simpa using h x hx
    · intro _; decide
  | some i =>
    dsimp only
    rw [List.findIdx?_eq_some_iff_getElem] at h
    obtain ⟨hi, hf, _⟩ := h
    constructor
    · intro h; omega
    · intro h
      rw [List.all_eq_true] at h
      have := h c[i] (List.getElem_mem _)
      simp [this] at hf

theorem filt_rowAt (s : Numbering_Size) (m : List Bool) (a : Nat) (t : Nat) : ((rowAt s a t).filter (fun x => gi m (x - 1))).length = (trues s m a t).length := by
  unfold rowAt trues
  rw [List.filter_map, List.filter_map, List.length_map, List.length_map]
  rfl

theorem any_filter (L : List Int) (f : Int → Bool) : L.any f = true ↔ 1 ≤ (L.filter f).length := by
  rw [List.any_eq_true]
  constructor
  · rintro ⟨x, hx, hf⟩
    exact List.length_pos_of_mem (List.mem_filter.mpr ⟨hx, hf⟩)
  · intro h
    obtain ⟨x, hx⟩ := List.exists_mem_of_length_pos h
    rw [List.mem_filter] at hx
    exact ⟨x, hx.1, hx.2⟩

theorem row_okl {s : Numbering_Size} {m : List Bool} (hc : numbering_Check s = 0) (hl : (m.length : Int) = numbering_Vars s) {a : Nat} (ha : (a : Int) ≤ s.Ops) : ∀ x ∈ rowAt s a s.States.toNat, okl m x := by
  intro x hx
  simp only [rowAt, List.mem_map, List.mem_range] at hx
  obtain ⟨b, hb, rfl⟩ := hx
  obtain ⟨e, e1, e2, e3⟩ := at_eq hc (a := (a : Int)) (by omega) ha (b := (b : Int)) (by omega) (by omega)
  exact ⟨e1, by omega, by omega⟩

theorem blk_holds {s : Numbering_Size} {m : List Bool} (hc : numbering_Check s = 0) (hl : (m.length : Int) = numbering_Vars s) {a : Nat} (ha : (a : Int) ≤ s.Ops) : (blk s a).all (fun c => ref02_Holds c m) = oneOf s m a := by
  have hk := row_okl hc hl ha
  rw [Bool.eq_iff_iff]
  unfold blk oneOf
  rw [List.all_cons, Bool.and_eq_true, holds_any hk, holds_most hk, any_filter, filt_rowAt, beq_iff_eq]
  omega

theorem clauses_iff {s : Numbering_Size} {m : List Bool} {init : Int} (hc : numbering_Check s = 0) (hl : (m.length : Int) = numbering_Vars s) (h0 : 0 ≤ init) (h1 : init < s.States) (n : Int) :
    ref04_First ⟨n, states_Clauses s init⟩ m < 0 ↔ on s m 0 init = true ∧ (List.range (s.Ops + 1).toNat).all (oneOf s m) = true := by
  obtain ⟨k0, k1, k2, k3⟩ := check0 hc
  rw [first_iff]
  unfold states_Clauses
  rw [if_pos ⟨hc, h0, h1⟩, List.all_cons, Bool.and_eq_true]
  obtain ⟨e, e1, e2, e3⟩ := at_eq hc (a := 0) (by omega) (by omega) (b := init) h0 h1
  have hh : ref02_Holds [states_at s 0 init] m = on s m 0 init := by
    rw [holds_any]
    · simp [on]
    · intro x hx
      rw [List.mem_singleton] at hx
      subst hx
      exact ⟨e1, by omega, by omega⟩
  rw [hh, List.all_flatMap]
  refine and_congr Iff.rfl ?_
  rw [List.all_eq_true, List.all_eq_true]
  refine forall_congr' fun a => ?_
  refine imp_congr_right fun ha => ?_
  rw [List.mem_range] at ha
  rw [blk_holds hc hl (by omega)]

theorem v26 : VC26 (fun r => r = law34_awake) := by
  have e1 : states_Row ⟨0, 2⟩ [false, true] = ([1], true) := by decide
  have e2 : states_Row ⟨0, 2⟩ [true, true] = ([], false) := by decide
  have e3 : states_Truths ⟨0, 2⟩ [1] = ([false, true], true) := by decide
  have e4 : states_Truths ⟨0, 2⟩ [2] = ([], false) := by decide
  have e5 : states_Clauses ⟨0, 2⟩ 1 = [[2], [1, 2], [(-1), (-2)]] := by decide
  have e6 : states_Clauses ⟨0, 2⟩ 2 = [] := by decide
  unfold VC26
  simp only [e1, e2, e3, e4, e5, e6, forall_eq', ref04_SameRows, ref01_SameInts, ref03_SameBools, law34_awake]
  simp

theorem v6 (P : Numbering_Size) (O : List Bool) (S : List Int) : VC6 P O S (fun r => r = true) := by
  have key : ∀ i, VC6_J1 P O S (fun r => r = true) i := by
    intro i
    unfold VC6_J1
    rintro _ rfl _ _ rfl _ _ rfl _ _ rfl _ _ rfl _ _ rfl _ _ rfl
    have e1 : ref34_Row P.Ops P.States O = states_Row P O := rfl
    have e2 : ref34_Truths P.Ops P.States S = states_Truths P S := rfl
    have e3 : ref34_Clauses P.Ops P.States i = states_Clauses P i := rfl
    rw [e1, e2, e3]
    simp only [forall_eq', ref04_SameRows, ref01_SameInts, ref03_SameBools, law34_awake]
    simp
  unfold VC6
  intro _ _
  refine ⟨fun _ r hr => by subst hr; rfl, fun h => ⟨fun h => ⟨?_, key _⟩, fun _ => key _⟩⟩
  simp only [decide_eq_true_eq] at h
  omega

theorem trues_mem {s : Numbering_Size} {m : List Bool} {a : Int} {t : Nat} {x : Int} : x ∈ trues s m a t ↔ 0 ≤ x ∧ x < t ∧ on s m a x = true := by
  unfold trues
  rw [List.mem_filter, List.mem_map]
  constructor
  · rintro ⟨⟨y, hy, rfl⟩, h⟩
    rw [List.mem_range] at hy
    exact ⟨by simp, by simpa using hy, h⟩
  · rintro ⟨h0, h1, h⟩
    exact ⟨⟨x.toNat, by rw [List.mem_range]; omega, by simp; omega⟩, h⟩

theorem one_last {s : Numbering_Size} {m : List Bool} {a : Nat} (h : oneOf s m a = true) : trues s m a s.States.toNat = [lastOf s m a] := by
  unfold oneOf at h
  rw [beq_iff_eq] at h
  unfold lastOf
  match htr : trues s m a s.States.toNat, h with
  | [x], _ => rfl

theorem v7 (P : Numbering_Size) (O : Int) (S : List Bool) : VC7 P O S (fun r => r = true) := by
  unfold VC7
  have key : (numbering_Check P = 0) → ∀ b, (b = false → ((S.length : Int) = numbering_Vars P ∧ 0 ≤ O ∧ O < P.States)) → VC7_J1 P O S (fun r => r = true) b := by
    intro hc b hb
    unfold VC7_J1
    refine ⟨fun _ r hr => by subst hr; rfl, fun hbf => ?_⟩
    obtain ⟨hl, h0, h1⟩ := hb hbf
    obtain ⟨k0, k1, k2, k3⟩ := check0 hc
    have iff := clauses_iff hc hl h0 h1 0
    rintro _ rfl _
    rw [wrp (by omega) (by omega)]
    by_cases hall : (List.range (P.Ops + 1).toNat).all (oneOf P S) = true
    · have e : states_Row P S = ((List.range (P.Ops + 1).toNat).map (lastOf P S), true) := by
        unfold states_Row; rw [if_pos ⟨hc, hl, hall⟩]
      rw [e]
      simp only [List.length_map, List.length_range]
      refine ⟨fun h => ?_, fun h => ?_⟩
      · simp at h; omega
      · rintro _ rfl _ _ rfl
        have hone : oneOf P S 0 = true := by
          rw [List.all_eq_true] at hall
          exact hall 0 (by rw [List.mem_range]; omega)
        have hlast := one_last hone
        have hgi : gi ((List.range (P.Ops + 1).toNat).map (lastOf P S)) 0 = lastOf P S 0 := by
          rw [gi_cast (by omega) (by simp; omega)]
          simp
        rw [hgi]
        have hmem : on P S 0 O = true ↔ lastOf P S 0 = O := by
          have := trues_mem (s := P) (m := S) (a := ((0 : Nat) : Int)) (t := P.States.toNat) (x := O)
          rw [hlast, List.mem_singleton] at this
          constructor
          · intro h; exact (this.mpr ⟨h0, by omega, h⟩).symm
          · intro h; exact (this.mp h.symm).2.2
        have hd : decide (ref04_First ⟨0, states_Clauses P O⟩ S < 0) = (lastOf P S 0 == O) := by
          rw [Bool.eq_iff_iff, decide_eq_true_eq, beq_iff_eq, iff, hmem]
          simp [hall]
        rw [hd]
        refine ⟨fun _ => ⟨⟨by omega, by omega⟩, fun _ r hr => by subst hr; rfl, fun h => ?_⟩, fun h => by cases h⟩
        simp at h
    · have e : states_Row P S = ([], false) := by
        unfold states_Row; rw [if_neg (fun h => hall h.2.2)]
      rw [e]
      refine ⟨fun h => by simp at h, fun h => ?_⟩
      rintro _ rfl _ _ rfl
      have hd : decide (ref04_First ⟨0, states_Clauses P O⟩ S < 0) = false := by
        rw [decide_eq_false_iff_not, iff]
        exact fun h => hall h.2
      rw [hd]
      refine ⟨(fun h => by cases h), fun _ => ⟨fun _ r hr => by subst hr; rfl, fun h => by simp at h⟩⟩
  intro _
  refine ⟨fun _ => ?_, fun _ r hr => ⟨fun h => ?_, fun h r hr => ?_⟩⟩
  · unfold VC7_J1; exact ⟨fun _ r hr => by subst hr; rfl, fun h => by cases h⟩
  · unfold VC7_J1; exact ⟨fun _ r hr => by subst hr; rfl, fun h => by cases h⟩
  · subst hr
    subst_vars
    refine key (by simpa using h) _ fun hb => ?_
    simp only [Bool.or_eq_false_iff, decide_eq_false_iff_not, bne_eq_false_iff_eq] at hb
    omega
end Go.Proofs.Ytlpcjbjlgeaapaa
