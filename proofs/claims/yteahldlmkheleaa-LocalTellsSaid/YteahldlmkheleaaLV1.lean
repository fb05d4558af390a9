/- Objects and runs. -/
import Derived.Test.YteahldlmkheleaaLVC
set_option linter.all false
namespace Go.Proofs.Yteahldlmkheleaa
open Go Go.Sv Go.Pu
theorem lD {α : Type} [Inhabited α] {a b : List α} (hl : a.length = b.length) (h : ∀ j : Int, 0 ≤ j → j < a.length → gi a j = gi b j) : a = b := by
 apply List.ext_getElem hl
 intro i h1 h2
 have := h i (by omega) (by omega)
 rwa [cx _ _ h1, cx _ _ h2] at this
theorem fq {α : Type} [Inhabited α] {l : List α} {i : Nat} (h : i < l.length) : l.drop i = gi l (i : Int) :: l.drop (i + 1) := by
 rw [cx _ _ h, List.drop_eq_getElem_cons h]
theorem lH {α : Type} [Inhabited α] {l : List α} {f : α → Bool} {i : Int} (h0 : 0 ≤ i) (h1 : i < l.length) (h : f (gi l i) = true) (h2 : ∀ j : Int, 0 ≤ j → j < i → f (gi l j) = false) : l.findIdx? f = some i.toNat := by
 rw [List.findIdx?_eq_some_iff_getElem]
 refine ⟨by omega, ?_, fun j hj => ?_⟩
 ·rw [iE h0 h1] at h; exact h
 ·have := h2 j (by omega) (by omega)
  rw [cx _ _ (by omega)] at this
  simp [this]
theorem lG {α : Type} [Inhabited α] {l : List α} {f : α → Bool} (h2 : ∀ j : Int, 0 ≤ j → j < l.length → f (gi l j) = false) : l.findIdx? f = none := by
 rw [List.findIdx?_eq_none_iff]
 intro x hx
 obtain ⟨i, hi, rfl⟩ := List.getElem_of_mem hx
 have := h2 i (by omega) (by omega)
 rwa [cx _ _ hi] at this
theorem o3 {α : Type} [Inhabited α] {l : List α} {f : α → Bool} {i : Int} (h0 : 0 ≤ i) (h1 : i < l.length) (h : f (gi l i) = true) (h2 : ∀ j : Int, 0 ≤ j → j < i → f (gi l j) = false) : l.find? f = some (gi l i) := by
 rw [List.find?_eq_some_iff_getElem]
 refine ⟨h, i.toNat, by omega, ?_, fun j hj => ?_⟩
 ·rw [iE h0 h1]
 ·have := h2 j (by omega) (by omega)
  rw [cx _ _ (by omega)] at this
  simp [this]
theorem o1 {α : Type} [Inhabited α] {l : List α} {f : α → Bool} (h2 : ∀ j : Int, 0 ≤ j → j < l.length → f (gi l j) = false) : l.find? f = none := by
 rw [List.find?_eq_none]
 intro x hx
 obtain ⟨i, hi, rfl⟩ := List.getElem_of_mem hx
 have := h2 i (by omega) (by omega)
 rw [cx _ _ hi] at this
 simp [this]
theorem v17 (o : ai) : VC17 o (fun r => r = eG o) := by
 intro _
 unfold eG
 rw [Bool.eq_iff_iff, decide_eq_true_eq, decide_eq_true_eq]; omega
theorem v28 (o : ai) : VC28 o (fun r => r = b5 o) := by
 unfold VC28
 intro hsm
 simp only [sm] at hsm
 simp only [Bool.or_eq_true, decide_eq_true_eq, Bool.or_eq_false_iff, decide_eq_false_iff_not]
 refine ⟨fun h => ?_, fun h => ?_⟩
 ·unfold b5; rw [if_pos (by unfold e9; omega)]
 ·have e : b5 o = en o o.Rows.length 0 := by unfold b5; rw [if_neg (by unfold e9; omega)]
  rw [e]
  refine ⟨fun x => ∃ k f : Nat, x = k ∧ k + f = o.Rows.length ∧ en o f k = en o o.Rows.length 0, fun x => (o.Rows.length - x).toNat, ⟨0, o.Rows.length, rfl, by omega, rfl⟩, ?_⟩
  rintro _ ⟨k, f, rfl, hkf, hgo⟩
  refine ⟨fun hx => ⟨⟨by omega, hx⟩, ?_⟩, fun hx => ?_⟩
  ·obtain ⟨f, rfl⟩ : ∃ j, f = j + 1 := ⟨f - 1, by omega⟩
   rw [en] at hgo
   have bad : ∀ e, dN o k = e → e ≠ 0 → ((k : Int), e) = en o o.Rows.length 0 := by
    rintro e rfl he
    rw [← hgo, if_pos he]
   refine ⟨fun h1 => bad 30 (by unfold dN; rw [if_pos (by omega)]) (by decide), fun h1 => ⟨fun h2 => bad 31 (by unfold dN; rw [if_neg (by omega), if_pos (by omega)]) (by decide), fun h2 => ⟨fun h3 => bad 7 (by unfold dN; rw [if_neg (by omega), if_neg (by omega), if_pos (by omega)]) (by decide), fun h3 => ?_⟩⟩⟩
   have j2 : ∀ b, (b = true ↔ eL o k) → VC28_J2 (fun r => r = en o o.Rows.length 0) (fun x => ∃ k f : Nat, x = k ∧ k + f = o.Rows.length ∧ en o f k = en o o.Rows.length 0) (fun x => (o.Rows.length - x).toNat) k b := by
    intro b hb
    unfold VC28_J2
    refine ⟨fun h => bad 32 (by unfold dN; rw [if_neg (by omega), if_neg (by omega), if_neg (by omega), if_pos (hb.mp h)]) (by decide), fun h => ?_⟩
    have hno : ¬ eL o k := fun h2 => by rw [hb.mpr h2] at h; cases h
    have h0 : dN o k = 0 := by unfold dN; rw [if_neg (by omega), if_neg (by omega), if_neg (by omega), if_neg hno]
    rw [if_neg (by omega)] at hgo
    rw [wrp (by omega) (by omega)]
    exact ⟨⟨k + 1, f, by simp, by omega, hgo⟩, by dsimp only; omega⟩
   refine ⟨fun h4 => ?_, fun h4 => j2 false ⟨(fun h => by cases h), fun h => by unfold eL at h; omega⟩⟩
   rw [wrp (n := (k : Int) - 1) (by omega) (by omega)]
   refine ⟨⟨by omega, by omega⟩, fun h5 => j2 true ⟨fun _ => ⟨h4, Or.inl h5⟩, fun _ => rfl⟩, fun h5 => ⟨⟨by omega, by omega⟩, fun h6 => ⟨⟨by omega, by omega⟩, j2 _ ?_⟩, fun h6 => j2 false ⟨(fun h => by cases h), fun h => ?_⟩⟩⟩
   ·rw [beq_iff_eq] at h6
    rw [decide_eq_true_eq]
    exact ⟨fun h => ⟨h4, Or.inr ⟨h6, h⟩⟩, fun h => by unfold eL at h; omega⟩
   ·rw [beq_eq_false_iff_ne] at h6
    unfold eL at h; omega
  ·have : f = 0 := by omega
   subst this
   unfold VC28_J1
   rw [← hgo, en]
   have : k = o.Rows.length := by omega
   rw [this]
theorem v92 (r : aS) (s k : Int) : VC92 r s k (fun x => x = ek r s k) := by
 unfold VC92 ek
 simp
theorem v93_92 (l : List aS) (s k : Int) : VC93_92 l s k (fun r => r = aX l s k) := by
 unfold VC93_92
 intro hl
 simp only [sm] at hl
 refine ⟨fun i => 0 ≤ i ∧ i ≤ l.length ∧ ∀ j : Int, 0 ≤ j → j < i → ((gi l j).State == s && (gi l j).Kind == k) = false, fun i => (l.length - i).toNat, ⟨by omega, by omega, fun j h0 h1 => by omega⟩, ?_⟩
 rintro i ⟨h0, h1, h2⟩
 refine ⟨fun hi => ?_, fun hi => ?_⟩
 ·rw [decide_eq_true_eq] at hi
  refine ⟨⟨h0, hi⟩, ?_⟩
  rintro _ rfl
  refine ⟨fun he => ?_, fun he => ?_⟩
  ·unfold aX
   rw [lH (f := fun r : aS => r.State == s && r.Kind == k) h0 hi he h2]
   dsimp only; omega
  ·rw [wrp (by omega) (by omega)]
   refine ⟨⟨by omega, by omega, fun j j0 j1 => ?_⟩, by dsimp only; omega⟩
   by_cases hj : j < i
   ·exact h2 j j0 hj
   ·rw [show j = i by omega]; exact he
 ·rw [decide_eq_false_iff_not] at hi
  unfold VC93_92_J1 aX
  rw [lG (f := fun r : aS => r.State == s && r.Kind == k) (fun j j0 j1 => h2 j j0 (by omega))]
theorem o4 {α : Type} [Inhabited α] (l : List α) (f : α → Bool) : l.find? f = (match l.findIdx? f with | some i => some (gi l (i : Int)) | none => none) := by
 cases h : l.findIdx? f with
 | none => rw [List.findIdx?_eq_none_iff] at h; rw [List.find?_eq_none.mpr (fun x hx => by simp [h x hx])]
 | some i =>
  rw [List.findIdx?_eq_some_iff_getElem] at h
  obtain ⟨hi, hf, hlt⟩ := h
  show l.find? f = some (gi l (i : Int))
  rw [cx _ _ hi, List.find?_eq_some_iff_getElem]
  exact ⟨hf, i, hi, rfl, fun j hj => by simpa using hlt j hj⟩
theorem v83 (o : ai) (s k : Int) : VC83 o s k (fun r => r = bJ o s k) := by
 unfold VC83
 intro _
 rintro _ rfl
 unfold bJ cI aX
 rw [o4]
 cases h : o.Rows.findIdx? (fun r => r.State == s && r.Kind == k) with
 | none => exact ⟨fun _ => rfl, fun h => by simp at h⟩
 | some i =>
  rw [List.findIdx?_eq_some_iff_getElem] at h
  obtain ⟨hi, _, _⟩ := h
  dsimp only
  refine ⟨fun h => ?_, fun _ => ⟨⟨by omega, by omega⟩, ⟨by omega, by omega⟩, rfl⟩⟩
  rw [decide_eq_true_eq] at h; omega
theorem v95 (t : eH) (s k : Int) : VC95 t s k (fun r => r = de t s k) := by
 intro _
 rintro _ rfl; rfl
theorem v88 (o : ai) (s k r : Int) : VC88 o s k r (fun x => x = eZ o s k r) := by
 unfold VC88 eZ
 intro _
 simp only [Bool.or_eq_true, decide_eq_true_eq, Bool.or_eq_false_iff, decide_eq_false_iff_not, Bool.not_eq_true', bne_iff_ne, bne_eq_false_iff_eq, Bool.not_eq_false']
 refine ⟨fun h => by unfold dW; rw [if_pos h], fun h => ?_⟩
 rintro _ rfl
 have e : de ⟨o⟩ s k = cI o s k := rfl
 rw [e]
 refine ⟨fun h2 => by unfold dW; rw [if_neg (by omega), if_pos h2], fun h2 => ?_⟩
 unfold dW
 rw [if_neg (by omega), if_neg (by rw [h2.1, h2.2]; simp)]
theorem v90 (x : Int) : VC90 x (fun r => r = dc x) := by
 unfold VC90 dc; simp
theorem v78 (x y : Int) : VC78 x y (fun r => r = cj x y) := by
 unfold VC78
 rintro _ rfl _ rfl
 unfold dc
 refine ⟨(fun h => by cases h), fun _ => ⟨(fun h => by cases h), fun _ => ?_⟩⟩
 simp only [decide_eq_true_eq, decide_eq_false_iff_not]
 unfold cj
 refine ⟨fun h => by rw [if_pos h], fun h => ⟨fun h2 => by rw [if_neg h, if_pos h2], fun h2 => by rw [if_neg h, if_neg h2]⟩⟩
theorem v77 (l : List Int) : VC77 l (fun r => r = eb l) := by
 unfold VC77
 intro hl
 simp only [sm] at hl
 refine ⟨fun i => 0 ≤ i ∧ i ≤ l.length ∧ ∀ j : Int, 0 ≤ j → j < i → (gi l j != 0) = false, fun i => (l.length - i).toNat, ⟨by omega, by omega, fun j h0 h1 => by omega⟩, ?_⟩
 rintro i ⟨h0, h1, h2⟩
 refine ⟨fun hi => ?_, fun hi => ?_⟩
 ·rw [decide_eq_true_eq] at hi
  refine ⟨⟨h0, hi⟩, fun he => ?_, fun he => ?_⟩
  ·unfold eb
   rw [o3 (f := fun x => x != 0) h0 hi he h2]; rfl
  ·rw [wrp (by omega) (by omega)]
   refine ⟨⟨by omega, by omega, fun j j0 j1 => ?_⟩, by dsimp only; omega⟩
   by_cases hj : j < i
   ·exact h2 j j0 hj
   ·rw [show j = i by omega]; exact he
 ·rw [decide_eq_false_iff_not] at hi
  unfold VC77_J1 eb
  rw [o1 (f := fun x => x != 0) (fun j j0 j1 => h2 j j0 (by omega))]; rfl
theorem v65 (a b : aS) : VC65 a b (fun r => r = dX a b) := by
 rintro _ rfl _ rfl _ rfl; rfl
theorem v47 (n t : Int) : VC47 n t (fun r => r = bz n t) := rfl
theorem within_iff (n t : Int) : (bz n t = true ↔ 0 ≤ n ∧ n < t) ∧ (bz n t = false ↔ ¬ (0 ≤ n ∧ n < t)) := by
 unfold bz
 refine ⟨by rw [Bool.and_eq_true, decide_eq_true_eq, decide_eq_true_eq], ?_⟩
 rw [Bool.and_eq_false_iff, decide_eq_false_iff_not, decide_eq_false_iff_not]; omega
theorem nT (a b : aS) : dX a b ≥ 0 ↔ (a.State > b.State ∨ (a.State = b.State ∧ a.Kind ≥ b.Kind)) := by
 unfold dX eb cj
 rcases Int.lt_trichotomy a.State b.State with h | h | h
 ·rw [if_pos h]; simp; omega
 ·rw [if_neg (by omega), if_neg (by omega)]
  rcases Int.lt_trichotomy a.Kind b.Kind with h2 | h2 | h2
  ·rw [if_pos h2]; simp; omega
  ·rw [if_neg (by omega), if_neg (by omega)]; simp; omega
  ·rw [if_neg (by omega), if_pos h2]; simp; omega
 ·rw [if_neg (by omega), if_pos h]; simp; omega
theorem v48 (o : ai) (i : Int) (h : lq o i) : VC48 o i (fun r => r = eU o i) := by
 obtain ⟨h0, h1⟩ := h
 unfold VC48 eU
 intro hsm
 simp only [sm] at hsm
 refine ⟨⟨h0, h1⟩, ?_⟩
 have j1 : ∀ b, (b = true ↔ ((gi o.Rows i).State < 0 ∨ (gi o.Rows i).State ≥ o.ao ∨ (gi o.Rows i).Next < 0 ∨ (gi o.Rows i).Next ≥ o.ao)) → VC48_J1 o i (fun r => r = dN o i) b := by
  intro b hb
  unfold VC48_J1
  refine ⟨fun h => by unfold dN; rw [if_pos (hb.mp h)], fun h => ?_⟩
  have g1 : ¬ ((gi o.Rows i).State < 0 ∨ (gi o.Rows i).State ≥ o.ao ∨ (gi o.Rows i).Next < 0 ∨ (gi o.Rows i).Next ≥ o.ao) := fun h2 => by rw [hb.mpr h2] at h; cases h
  rintro _ rfl
  rw [Bool.not_eq_true', Bool.not_eq_false', (within_iff _ _).1, (within_iff _ _).2]
  refine ⟨fun h2 => by unfold dN; rw [if_neg g1, if_pos (by omega)], fun h2 => ?_⟩
  rintro _ rfl
  rw [Bool.not_eq_true', Bool.not_eq_false', (within_iff _ _).1, (within_iff _ _).2]
  refine ⟨fun h3 => by unfold dN; rw [if_neg g1, if_neg (by omega), if_pos (by omega)], fun h3 => ?_⟩
  have j2 : ∀ b, (b = true ↔ eL o i) → VC48_J2 (fun r => r = dN o i) b := by
   intro b hb
   unfold VC48_J2
   refine ⟨fun h => by unfold dN; rw [if_neg g1, if_neg (by omega), if_neg (by omega), if_pos (hb.mp h)], fun h => ?_⟩
   have hno : ¬ eL o i := fun h2 => by rw [hb.mpr h2] at h; cases h
   unfold dN; rw [if_neg g1, if_neg (by omega), if_neg (by omega), if_neg hno]
  refine ⟨fun h4 => ?_, fun h4 => j2 false ⟨(fun h => by cases h), fun h => by rw [decide_eq_false_iff_not] at h4; exact absurd h.1 h4⟩⟩
  rw [decide_eq_true_eq] at h4
  rw [wrp (n := i - 1) (by omega) (by omega)]
  refine ⟨⟨by omega, by omega⟩, ?_⟩
  rintro _ rfl
  refine j2 _ ?_
  rw [decide_eq_true_eq, nT]
  exact ⟨fun h => ⟨h4, h⟩, fun h => h.2⟩
 rintro _ rfl
 rw [Bool.not_eq_true', Bool.not_eq_false', (within_iff _ _).1, (within_iff _ _).2]
 refine ⟨fun h2 => j1 true ⟨fun _ => by omega, fun _ => rfl⟩, fun h2 => ?_⟩
 rintro _ rfl
 refine j1 _ ?_
 rw [Bool.not_eq_true', (within_iff _ _).2]
 omega
theorem v24 (o : ai) (h : fV o) : VC24 o (fun r => r = bd o) := by
 obtain ⟨hs, hk⟩ := h
 unfold inR at hs hk
 have m1 : IntKind.min .i64 = -9223372036854775808 := by decide
 have m2 : IntKind.max .i64 = 9223372036854775807 := by decide
 rw [m1, m2] at hs hk
 unfold VC24 bd
 intro hsm
 simp only [sm] at hsm
 have j1 : ∀ b, (b = true ↔ e9 o) → VC24_J1 o (fun r => r = b5 o) b := by
  intro b hb
  unfold VC24_J1
  refine ⟨fun h => by unfold b5; rw [if_pos (hb.mp h)], fun h => ?_⟩
  have hno : ¬ e9 o := fun h2 => by rw [hb.mpr h2] at h; cases h
  have e : b5 o = en o o.Rows.length 0 := by unfold b5; rw [if_neg hno]
  rw [e]
  refine ⟨fun x => ∃ k f : Nat, x = k ∧ k + f = o.Rows.length ∧ en o f k = en o o.Rows.length 0, fun x => (o.Rows.length - x).toNat, ⟨0, o.Rows.length, rfl, by omega, rfl⟩, ?_⟩
  rintro _ ⟨k, f, rfl, hkf, hgo⟩
  refine ⟨fun hx => ⟨⟨by omega, by simpa using hx⟩, ?_⟩, fun hx => ?_⟩
  ·rw [decide_eq_true_eq] at hx
   obtain ⟨f, rfl⟩ : ∃ j, f = j + 1 := ⟨f - 1, by omega⟩
   rw [en] at hgo
   rintro _ rfl
   unfold eU
   rw [bne_iff_ne, bne_eq_false_iff_eq]
   refine ⟨fun he => by rw [if_pos he] at hgo; exact hgo, fun he => ?_⟩
   rw [if_neg (by omega)] at hgo
   rw [wrp (by omega) (by omega)]
   exact ⟨⟨k + 1, f, by simp, by omega, hgo⟩, by dsimp only; omega⟩
  ·rw [decide_eq_false_iff_not] at hx
   have : f = 0 := by omega
   subst this
   unfold VC24_J2
   rw [← hgo, en]
   have : k = o.Rows.length := by omega
   rw [this]
 have w1 : bz (IntKind.i64.wrap (o.ao - 1)) 32 = true ↔ ¬ (o.ao < 1 ∨ o.ao > 32) := by
  rw [(within_iff _ _).1, pT]; omega
 have w2 : bz (IntKind.i64.wrap (o.av - 1)) 64 = true ↔ ¬ (o.av < 1 ∨ o.av > 64) := by
  rw [(within_iff _ _).1, pT]; omega
 rintro _ rfl
 refine ⟨fun h => j1 true ⟨fun _ => ?_, fun _ => rfl⟩, fun h => ?_⟩
 ·rw [Bool.not_eq_true', ← Bool.not_eq_true, w1] at h; unfold e9; omega
 ·rw [Bool.not_eq_false', w1] at h
  rintro _ rfl
  refine ⟨fun h2 => j1 true ⟨fun _ => ?_, fun _ => rfl⟩, fun h2 => ?_⟩
  ·rw [Bool.not_eq_true', ← Bool.not_eq_true, w2] at h2; unfold e9; omega
  ·rw [Bool.not_eq_false', w2] at h2
   rintro _ rfl
   refine j1 _ ?_
   rw [Bool.not_eq_true', (within_iff _ _).2]
   unfold e9; omega
theorem v74 (o : ai) (s : Int) (h : nq o s) : VC74 o s (fun r => r = fo o s) := by
 unfold VC74
 intro _
 refine ⟨h, ?_⟩
 rintro _ rfl
 simp only [Bool.or_eq_true, decide_eq_true_eq, Bool.or_eq_false_iff, decide_eq_false_iff_not, bne_iff_ne, bne_eq_false_iff_eq]
 unfold fo bd
 refine ⟨fun h => by rw [if_pos h], fun h => ⟨fun h2 => by rw [if_neg (by omega), if_pos h2], fun h2 => by rw [if_neg (by omega), if_neg (by omega)]⟩⟩
theorem v75 (o : ai) (l : List aa) (s : Int) : VC75 o l s (fun r => r = cS o l s) := by
 intro _ _; rfl
theorem v87 (p : ah) (l : List aa) (u : List (Int × Int)) (o : ai) (s : Int) : VC87 p l u o s (fun r => r = b9 p l u o s) := by
 unfold VC87
 intro _ _
 simp only [Bool.or_eq_true, decide_eq_true_eq, Bool.or_eq_false_iff, decide_eq_false_iff_not]
 unfold b9
 refine ⟨fun h => by rw [if_pos h], fun h => ⟨fun h2 => by rw [if_neg (by omega), if_pos h2], fun h2 => ⟨⟨by omega, by omega⟩, ?_⟩⟩⟩
 rintro _ rfl
 rw [if_neg (by omega), if_neg h2]
 have key : ∀ e, e = gq o l s p →
   VC87_J1 p u s (fun r => r = if (fc o l s p).2 ≠ 0 then (0, (fc o l s p).2, fH u p.Oper, s) else ((fc o l s p).1, 0, fH u p.Oper, (fc o l s p).1)) (eZ o s (gi l p.Oper).Kind p.Result) e := by
  rintro e rfl
  unfold VC87_J1 fc
  simp only [bne_iff_ne, bne_eq_false_iff_eq]
  refine ⟨fun he => ?_, fun he => ?_⟩
  ·rw [if_pos he, if_pos he]; rfl
  ·rw [if_neg (c := gq o l s p ≠ 0) (fun h => h he), if_neg (by simp)]; rfl
 unfold gq at key
 refine ⟨fun hc => ?_, fun hc => ?_⟩
 ·simp only [Bool.and_eq_true, beq_iff_eq, bne_iff_ne] at hc
  refine key 40 ?_
  rw [if_pos ⟨hc.1.1, hc.1.2, hc.2⟩]
 ·refine key _ ?_
  rw [if_neg]; · rfl
  rintro ⟨a, b, c⟩
  have : ((eZ o s (gi l p.Oper).Kind p.Result).2 == 0 && (gi l p.Oper).End != -1 && (gi l p.Oper).Result != p.Result) = true := by
   rw [Bool.and_eq_true, Bool.and_eq_true, beq_iff_eq, bne_iff_ne, bne_iff_ne]; exact ⟨⟨a, b⟩, c⟩
  rw [this] at hc; cases hc
theorem v44 (o : ai) (l : List aa) (p : List ah) (h : gj o l p) : VC44 o l p (fun r => r = cr o l p) := by
 unfold VC44
 intro _ _ _
 refine ⟨h.1, ?_⟩
 rintro _ rfl; rfl
end Go.Proofs.Yteahldlmkheleaa
