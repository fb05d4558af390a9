/- Plain lemmas about the specification functions. Conditions: in each lemma. -/
import Derived.Test.YtnhdgebboafliaaWVC
set_option linter.all false
namespace Go.Proofs.Ytnhdgebboafliaa
open Go Go.Sv Go.Pu

theorem gi_ext {α : Type} [Inhabited α] {a b : List α} (hl : a.length = b.length) (h : ∀ j : Int, 0 ≤ j → j < a.length → gi a j = gi b j) : a = b := by
  apply List.ext_getElem hl
  intro i h1 h2
  have := h i (by omega) (by omega)
  rwa [gi_nat _ _ h1, gi_nat _ _ h2] at this
theorem drop_gi {α : Type} [Inhabited α] {l : List α} {i : Nat} (h : i < l.length) : l.drop i = gi l (i : Int) :: l.drop (i + 1) := by
  rw [gi_nat _ _ h, List.drop_eq_getElem_cons h]
theorem find_at {α : Type} [Inhabited α] {l : List α} {f : α → Bool} {i : Int} (h0 : 0 ≤ i) (h1 : i < l.length) (h : f (gi l i) = true) (h2 : ∀ j : Int, 0 ≤ j → j < i → f (gi l j) = false) : l.findIdx? f = some i.toNat := by
  rw [List.findIdx?_eq_some_iff_getElem]
  refine ⟨by omega, ?_, fun j hj => ?_⟩
  · rw [gi_cast h0 h1] at h; exact h
  · have := h2 j (by omega) (by omega)
    rw [gi_nat _ _ (by omega)] at this
    simp [this]
theorem find_no {α : Type} [Inhabited α] {l : List α} {f : α → Bool} (h2 : ∀ j : Int, 0 ≤ j → j < l.length → f (gi l j) = false) : l.findIdx? f = none := by
  rw [List.findIdx?_eq_none_iff]
  intro x hx
  obtain ⟨i, hi, rfl⟩ := List.getElem_of_mem hx
  have := h2 i (by omega) (by omega)
  rwa [gi_nat _ _ hi] at this
theorem findv_at {α : Type} [Inhabited α] {l : List α} {f : α → Bool} {i : Int} (h0 : 0 ≤ i) (h1 : i < l.length) (h : f (gi l i) = true) (h2 : ∀ j : Int, 0 ≤ j → j < i → f (gi l j) = false) : l.find? f = some (gi l i) := by
  rw [List.find?_eq_some_iff_getElem]
  refine ⟨h, i.toNat, by omega, ?_, fun j hj => ?_⟩
  · rw [gi_cast h0 h1]
  · have := h2 j (by omega) (by omega)
    rw [gi_nat _ _ (by omega)] at this
    simp [this]
theorem findv_no {α : Type} [Inhabited α] {l : List α} {f : α → Bool} (h2 : ∀ j : Int, 0 ≤ j → j < l.length → f (gi l j) = false) : l.find? f = none := by
  rw [List.find?_eq_none]
  intro x hx
  obtain ⟨i, hi, rfl⟩ := List.getElem_of_mem hx
  have := h2 i (by omega) (by omega)
  rw [gi_nat _ _ hi] at this
  simp [this]
theorem v12 (o : Api_Object) : VC12 o (fun r => r = law23_Few o) := by
  intro _
  unfold law23_Few
  rw [Bool.eq_iff_iff, decide_eq_true_eq, decide_eq_true_eq]; omega
theorem v19 (a b : List Int) : VC19 a b (fun r => r = ref01_SameInts a b) := by
  unfold VC19
  intro ha hb
  simp only [sm] at ha hb
  refine ⟨fun h => ?_, fun h => ?_⟩
  · have : a ≠ b := by rintro rfl; simp at h
    simp [ref01_SameInts, this]
  · have hl : a.length = b.length := by simp at h; omega
    refine ⟨fun i => 0 ≤ i ∧ i ≤ a.length ∧ ∀ j : Int, 0 ≤ j → j < i → gi a j = gi b j, fun i => (a.length - i).toNat, ⟨by omega, by omega, fun j h0 h1 => by omega⟩, ?_⟩
    rintro i ⟨h0, h1, h2⟩
    simp only [decide_eq_true_eq, decide_eq_false_iff_not, bne_iff_ne, bne_eq_false_iff_eq]
    refine ⟨fun hi => ⟨⟨by omega, by omega⟩, ⟨by omega, by omega⟩, fun hne => ?_, fun he => ?_⟩, fun hi => ?_⟩
    · have : a ≠ b := by rintro rfl; exact hne rfl
      simp [ref01_SameInts, this]
    · rw [wrp (by omega) (by omega)]
      refine ⟨⟨by omega, by omega, fun j j0 j1 => ?_⟩, by omega⟩
      by_cases hj : j < i
      · exact h2 j j0 hj
      · rw [show j = i by omega]; exact he
    · have : a = b := gi_ext hl (fun j j0 j1 => h2 j j0 (by omega))
      simp [VC19_J1, ref01_SameInts, this]
theorem v43 (o : Api_Object) : VC43 o (fun r => r = ref23_Check o) := by
  unfold VC43
  intro hsm
  simp only [sm] at hsm
  simp only [Bool.or_eq_true, decide_eq_true_eq, Bool.or_eq_false_iff, decide_eq_false_iff_not]
  refine ⟨fun h => ?_, fun h => ?_⟩
  · unfold ref23_Check; rw [if_pos (by unfold headBad; omega)]
  · have e : ref23_Check o = rowsGo o o.Rows.length 0 := by unfold ref23_Check; rw [if_neg (by unfold headBad; omega)]
    rw [e]
    refine ⟨fun x => ∃ k f : Nat, x = k ∧ k + f = o.Rows.length ∧ rowsGo o f k = rowsGo o o.Rows.length 0, fun x => (o.Rows.length - x).toNat, ⟨0, o.Rows.length, rfl, by omega, rfl⟩, ?_⟩
    rintro _ ⟨k, f, rfl, hkf, hgo⟩
    refine ⟨fun hx => ⟨⟨by omega, hx⟩, ?_⟩, fun hx => ?_⟩
    · obtain ⟨f, rfl⟩ : ∃ j, f = j + 1 := ⟨f - 1, by omega⟩
      rw [rowsGo] at hgo
      have bad : ∀ e, rowErr o k = e → e ≠ 0 → ((k : Int), e) = rowsGo o o.Rows.length 0 := by
        rintro e rfl he
        rw [← hgo, if_pos he]
      refine ⟨fun h1 => bad 30 (by unfold rowErr; rw [if_pos (by omega)]) (by decide), fun h1 => ⟨fun h2 => bad 31 (by unfold rowErr; rw [if_neg (by omega), if_pos (by omega)]) (by decide), fun h2 => ⟨fun h3 => bad 7 (by unfold rowErr; rw [if_neg (by omega), if_neg (by omega), if_pos (by omega)]) (by decide), fun h3 => ?_⟩⟩⟩
      have j2 : ∀ b, (b = true ↔ rowOrder o k) → VC43_J2 (fun r => r = rowsGo o o.Rows.length 0) (fun x => ∃ k f : Nat, x = k ∧ k + f = o.Rows.length ∧ rowsGo o f k = rowsGo o o.Rows.length 0) (fun x => (o.Rows.length - x).toNat) k b := by
        intro b hb
        unfold VC43_J2
        refine ⟨fun h => bad 32 (by unfold rowErr; rw [if_neg (by omega), if_neg (by omega), if_neg (by omega), if_pos (hb.mp h)]) (by decide), fun h => ?_⟩
        have hno : ¬ rowOrder o k := fun h2 => by rw [hb.mpr h2] at h; cases h
        have h0 : rowErr o k = 0 := by unfold rowErr; rw [if_neg (by omega), if_neg (by omega), if_neg (by omega), if_neg hno]
        rw [if_neg (by omega)] at hgo
        rw [wrp (by omega) (by omega)]
        exact ⟨⟨k + 1, f, by simp, by omega, hgo⟩, by dsimp only; omega⟩
      refine ⟨fun h4 => ?_, fun h4 => j2 false ⟨(fun h => by cases h), fun h => by unfold rowOrder at h; omega⟩⟩
      rw [wrp (n := (k : Int) - 1) (by omega) (by omega)]
      refine ⟨⟨by omega, by omega⟩, fun h5 => j2 true ⟨fun _ => ⟨h4, Or.inl h5⟩, fun _ => rfl⟩, fun h5 => ⟨⟨by omega, by omega⟩, fun h6 => ⟨⟨by omega, by omega⟩, j2 _ ?_⟩, fun h6 => j2 false ⟨(fun h => by cases h), fun h => ?_⟩⟩⟩
      · rw [beq_iff_eq] at h6
        rw [decide_eq_true_eq]
        exact ⟨fun h => ⟨h4, Or.inr ⟨h6, h⟩⟩, fun h => by unfold rowOrder at h; omega⟩
      · rw [beq_eq_false_iff_ne] at h6
        unfold rowOrder at h; omega
    · have : f = 0 := by omega
      subst this
      unfold VC43_J1
      rw [← hgo, rowsGo]
      have : k = o.Rows.length := by omega
      rw [this]
theorem v47 (o : Api_Object) (s k : Int) : VC47 o s k (fun r => r = ref23_Move o s k) := by
  unfold VC47
  intro hsm
  simp only [sm] at hsm
  refine ⟨fun i => 0 ≤ i ∧ i ≤ o.Rows.length ∧ ∀ j : Int, 0 ≤ j → j < i → ((gi o.Rows j).State == s && (gi o.Rows j).Kind == k) = false, fun i => (o.Rows.length - i).toNat, ⟨by omega, by omega, fun j h0 h1 => by omega⟩, ?_⟩
  rintro i ⟨h0, h1, h2⟩
  have j2 : i < o.Rows.length → ∀ b, b = ((gi o.Rows i).State == s && (gi o.Rows i).Kind == k) → VC47_J2 o (fun r => r = ref23_Move o s k) (fun i => 0 ≤ i ∧ i ≤ o.Rows.length ∧ ∀ j : Int, 0 ≤ j → j < i → ((gi o.Rows j).State == s && (gi o.Rows j).Kind == k) = false) (fun i => (o.Rows.length - i).toNat) i b := by
    rintro hi b rfl
    unfold VC47_J2
    refine ⟨fun hb => ⟨⟨h0, hi⟩, ⟨h0, hi⟩, ?_⟩, fun hb => ?_⟩
    · unfold ref23_Move
      rw [findv_at (f := fun r : Api_Row => r.State == s && r.Kind == k) h0 hi hb h2]
    · rw [wrp (by omega) (by omega)]
      refine ⟨⟨by omega, by omega, fun j j0 j1 => ?_⟩, by dsimp only; omega⟩
      by_cases hj : j < i
      · exact h2 j j0 hj
      · rw [show j = i by omega]; exact hb
  refine ⟨fun hi => ?_, fun hi => ?_⟩
  · rw [decide_eq_true_eq] at hi
    refine ⟨⟨h0, hi⟩, fun hs => ⟨⟨h0, hi⟩, j2 hi _ (by rw [hs, Bool.true_and])⟩, fun hs => j2 hi _ (by rw [hs, Bool.false_and])⟩
  · rw [decide_eq_false_iff_not] at hi
    unfold VC47_J1 ref23_Move
    rw [findv_no (f := fun r : Api_Row => r.State == s && r.Kind == k) (fun j j0 j1 => h2 j j0 (by omega))]
theorem v69 (r : Api_Row) (s k : Int) : VC69 r s k (fun x => x = object_Move_1 r s k) := by
  unfold VC69 object_Move_1
  simp
theorem v70_69 (l : List Api_Row) (s k : Int) : VC70_69 l s k (fun r => r = slices_IndexFunc_api_Row_api_Row_object_Move_1 l s k) := by
  unfold VC70_69
  intro hl
  simp only [sm] at hl
  refine ⟨fun i => 0 ≤ i ∧ i ≤ l.length ∧ ∀ j : Int, 0 ≤ j → j < i → ((gi l j).State == s && (gi l j).Kind == k) = false, fun i => (l.length - i).toNat, ⟨by omega, by omega, fun j h0 h1 => by omega⟩, ?_⟩
  rintro i ⟨h0, h1, h2⟩
  refine ⟨fun hi => ?_, fun hi => ?_⟩
  · rw [decide_eq_true_eq] at hi
    refine ⟨⟨h0, hi⟩, ?_⟩
    rintro _ rfl
    refine ⟨fun he => ?_, fun he => ?_⟩
    · unfold slices_IndexFunc_api_Row_api_Row_object_Move_1
      rw [find_at (f := fun r : Api_Row => r.State == s && r.Kind == k) h0 hi he h2]
      dsimp only; omega
    · rw [wrp (by omega) (by omega)]
      refine ⟨⟨by omega, by omega, fun j j0 j1 => ?_⟩, by dsimp only; omega⟩
      by_cases hj : j < i
      · exact h2 j j0 hj
      · rw [show j = i by omega]; exact he
  · rw [decide_eq_false_iff_not] at hi
    unfold VC70_69_J1 slices_IndexFunc_api_Row_api_Row_object_Move_1
    rw [find_no (f := fun r : Api_Row => r.State == s && r.Kind == k) (fun j j0 j1 => h2 j j0 (by omega))]
theorem find_idx {α : Type} [Inhabited α] (l : List α) (f : α → Bool) : l.find? f = (match l.findIdx? f with | some i => some (gi l (i : Int)) | none => none) := by
  cases h : l.findIdx? f with
  | none => rw [List.findIdx?_eq_none_iff] at h; rw [List.find?_eq_none.mpr (fun x hx => by simp [h x hx])]
  | some i =>
    rw [List.findIdx?_eq_some_iff_getElem] at h
    obtain ⟨hi, hf, hlt⟩ := h
    show l.find? f = some (gi l (i : Int))
    rw [gi_nat _ _ hi, List.find?_eq_some_iff_getElem]
    exact ⟨hf, i, hi, rfl, fun j hj => by simpa using hlt j hj⟩
theorem v48 (o : Api_Object) (s k : Int) : VC48 o s k (fun r => r = object_Move o s k) := by
  unfold VC48
  intro _
  rintro _ rfl
  unfold object_Move ref23_Move slices_IndexFunc_api_Row_api_Row_object_Move_1
  rw [find_idx]
  cases h : o.Rows.findIdx? (fun r => r.State == s && r.Kind == k) with
  | none => exact ⟨fun _ => rfl, fun h => by simp at h⟩
  | some i =>
    rw [List.findIdx?_eq_some_iff_getElem] at h
    obtain ⟨hi, _, _⟩ := h
    dsimp only
    refine ⟨fun h => ?_, fun _ => ⟨⟨by omega, by omega⟩, ⟨by omega, by omega⟩, rfl⟩⟩
    rw [decide_eq_true_eq] at h; omega
theorem v46 (t : Run_table) (s k : Int) : VC46 t s k (fun r => r = run_table_move t s k) := by
  intro _
  rintro _ rfl; rfl
theorem v18 (o : Api_Object) (s k r : Int) : VC18 o s k r (fun x => x = ref28_Step o s k r) := by
  unfold VC18
  intro _
  simp only [Bool.or_eq_true, decide_eq_true_eq, Bool.or_eq_false_iff, decide_eq_false_iff_not, Bool.not_eq_true', bne_iff_ne, bne_eq_false_iff_eq, Bool.not_eq_false']
  refine ⟨fun h => by unfold ref28_Step; rw [if_pos h], fun h => ?_⟩
  rintro _ rfl
  refine ⟨fun h2 => by unfold ref28_Step; rw [if_neg (by omega), if_pos h2], fun h2 => ?_⟩
  unfold ref28_Step
  rw [if_neg (by omega), if_neg (by rw [h2.1, h2.2]; simp)]
theorem v17 (o : Api_Object) (s k r : Int) : VC17 o s k r (fun x => x = run_Step o s k r) := by
  unfold VC17 run_Step
  intro _
  simp only [Bool.or_eq_true, decide_eq_true_eq, Bool.or_eq_false_iff, decide_eq_false_iff_not, Bool.not_eq_true', bne_iff_ne, bne_eq_false_iff_eq, Bool.not_eq_false']
  refine ⟨fun h => by unfold ref28_Step; rw [if_pos h], fun h => ?_⟩
  rintro _ rfl
  have e : run_table_move ⟨o⟩ s k = ref23_Move o s k := rfl
  rw [e]
  refine ⟨fun h2 => by unfold ref28_Step; rw [if_neg (by omega), if_pos h2], fun h2 => ?_⟩
  unfold ref28_Step
  rw [if_neg (by omega), if_neg (by rw [h2.1, h2.2]; simp)]
theorem v84 (x : Int) : VC84 x (fun r => r = cmp_isNaN_int x) := by
  unfold VC84 cmp_isNaN_int; simp
theorem v82 (x y : Int) : VC82 x y (fun r => r = cmp_Compare_int x y) := by
  unfold VC82
  rintro _ rfl _ rfl
  unfold cmp_isNaN_int
  refine ⟨(fun h => by cases h), fun _ => ⟨(fun h => by cases h), fun _ => ?_⟩⟩
  simp only [decide_eq_true_eq, decide_eq_false_iff_not]
  unfold cmp_Compare_int
  refine ⟨fun h => by rw [if_pos h], fun h => ⟨fun h2 => by rw [if_neg h, if_pos h2], fun h2 => by rw [if_neg h, if_neg h2]⟩⟩
theorem v81 (l : List Int) : VC81 l (fun r => r = cmp_Or_int l) := by
  unfold VC81
  intro hl
  simp only [sm] at hl
  refine ⟨fun i => 0 ≤ i ∧ i ≤ l.length ∧ ∀ j : Int, 0 ≤ j → j < i → (gi l j != 0) = false, fun i => (l.length - i).toNat, ⟨by omega, by omega, fun j h0 h1 => by omega⟩, ?_⟩
  rintro i ⟨h0, h1, h2⟩
  refine ⟨fun hi => ?_, fun hi => ?_⟩
  · rw [decide_eq_true_eq] at hi
    refine ⟨⟨h0, hi⟩, fun he => ?_, fun he => ?_⟩
    · unfold cmp_Or_int
      rw [findv_at (f := fun x => x != 0) h0 hi he h2]; rfl
    · rw [wrp (by omega) (by omega)]
      refine ⟨⟨by omega, by omega, fun j j0 j1 => ?_⟩, by dsimp only; omega⟩
      by_cases hj : j < i
      · exact h2 j j0 hj
      · rw [show j = i by omega]; exact he
  · rw [decide_eq_false_iff_not] at hi
    unfold VC81_J1 cmp_Or_int
    rw [findv_no (f := fun x => x != 0) (fun j j0 j1 => h2 j j0 (by omega))]; rfl
theorem v72 (a b : Api_Row) : VC72 a b (fun r => r = object_place a b) := by
  rintro _ rfl _ rfl _ rfl; rfl
theorem v54 (n t : Int) : VC54 n t (fun r => r = object_within n t) := rfl
theorem within_iff (n t : Int) : (object_within n t = true ↔ 0 ≤ n ∧ n < t) ∧ (object_within n t = false ↔ ¬ (0 ≤ n ∧ n < t)) := by
  unfold object_within
  refine ⟨by rw [Bool.and_eq_true, decide_eq_true_eq, decide_eq_true_eq], ?_⟩
  rw [Bool.and_eq_false_iff, decide_eq_false_iff_not, decide_eq_false_iff_not]; omega
theorem place_iff (a b : Api_Row) : object_place a b ≥ 0 ↔ (a.State > b.State ∨ (a.State = b.State ∧ a.Kind ≥ b.Kind)) := by
  unfold object_place cmp_Or_int cmp_Compare_int
  rcases Int.lt_trichotomy a.State b.State with h | h | h
  · rw [if_pos h]; simp; omega
  · rw [if_neg (by omega), if_neg (by omega)]
    rcases Int.lt_trichotomy a.Kind b.Kind with h2 | h2 | h2
    · rw [if_pos h2]; simp; omega
    · rw [if_neg (by omega), if_neg (by omega)]; simp; omega
    · rw [if_neg (by omega), if_pos h2]; simp; omega
  · rw [if_neg (by omega), if_pos h]; simp; omega
theorem v55 (o : Api_Object) (i : Int) (h : preRow o i) : VC55 o i (fun r => r = object_row o i) := by
  obtain ⟨h0, h1⟩ := h
  unfold VC55 object_row
  intro hsm
  simp only [sm] at hsm
  refine ⟨⟨h0, h1⟩, ?_⟩
  have j1 : ∀ b, (b = true ↔ ((gi o.Rows i).State < 0 ∨ (gi o.Rows i).State ≥ o.States ∨ (gi o.Rows i).Next < 0 ∨ (gi o.Rows i).Next ≥ o.States)) → VC55_J1 o i (fun r => r = rowErr o i) b := by
    intro b hb
    unfold VC55_J1
    refine ⟨fun h => by unfold rowErr; rw [if_pos (hb.mp h)], fun h => ?_⟩
    have g1 : ¬ ((gi o.Rows i).State < 0 ∨ (gi o.Rows i).State ≥ o.States ∨ (gi o.Rows i).Next < 0 ∨ (gi o.Rows i).Next ≥ o.States) := fun h2 => by rw [hb.mpr h2] at h; cases h
    rintro _ rfl
    rw [Bool.not_eq_true', Bool.not_eq_false', (within_iff _ _).1, (within_iff _ _).2]
    refine ⟨fun h2 => by unfold rowErr; rw [if_neg g1, if_pos (by omega)], fun h2 => ?_⟩
    rintro _ rfl
    rw [Bool.not_eq_true', Bool.not_eq_false', (within_iff _ _).1, (within_iff _ _).2]
    refine ⟨fun h3 => by unfold rowErr; rw [if_neg g1, if_neg (by omega), if_pos (by omega)], fun h3 => ?_⟩
    have j2 : ∀ b, (b = true ↔ rowOrder o i) → VC55_J2 (fun r => r = rowErr o i) b := by
      intro b hb
      unfold VC55_J2
      refine ⟨fun h => by unfold rowErr; rw [if_neg g1, if_neg (by omega), if_neg (by omega), if_pos (hb.mp h)], fun h => ?_⟩
      have hno : ¬ rowOrder o i := fun h2 => by rw [hb.mpr h2] at h; cases h
      unfold rowErr; rw [if_neg g1, if_neg (by omega), if_neg (by omega), if_neg hno]
    refine ⟨fun h4 => ?_, fun h4 => j2 false ⟨(fun h => by cases h), fun h => by rw [decide_eq_false_iff_not] at h4; exact absurd h.1 h4⟩⟩
    rw [decide_eq_true_eq] at h4
    rw [wrp (n := i - 1) (by omega) (by omega)]
    refine ⟨⟨by omega, by omega⟩, ?_⟩
    rintro _ rfl
    refine j2 _ ?_
    rw [decide_eq_true_eq, place_iff]
    exact ⟨fun h => ⟨h4, h⟩, fun h => h.2⟩
  rintro _ rfl
  rw [Bool.not_eq_true', Bool.not_eq_false', (within_iff _ _).1, (within_iff _ _).2]
  refine ⟨fun h2 => j1 true ⟨fun _ => by omega, fun _ => rfl⟩, fun h2 => ?_⟩
  rintro _ rfl
  refine j1 _ ?_
  rw [Bool.not_eq_true', (within_iff _ _).2]
  omega
theorem v31 (o : Api_Object) (h : preO o) : VC31 o (fun r => r = object_Check o) := by
  obtain ⟨hs, hk⟩ := h
  unfold inR at hs hk
  have m1 : IntKind.min .i64 = -9223372036854775808 := by decide
  have m2 : IntKind.max .i64 = 9223372036854775807 := by decide
  rw [m1, m2] at hs hk
  unfold VC31 object_Check
  intro hsm
  simp only [sm] at hsm
  have j1 : ∀ b, (b = true ↔ headBad o) → VC31_J1 o (fun r => r = ref23_Check o) b := by
    intro b hb
    unfold VC31_J1
    refine ⟨fun h => by unfold ref23_Check; rw [if_pos (hb.mp h)], fun h => ?_⟩
    have hno : ¬ headBad o := fun h2 => by rw [hb.mpr h2] at h; cases h
    have e : ref23_Check o = rowsGo o o.Rows.length 0 := by unfold ref23_Check; rw [if_neg hno]
    rw [e]
    refine ⟨fun x => ∃ k f : Nat, x = k ∧ k + f = o.Rows.length ∧ rowsGo o f k = rowsGo o o.Rows.length 0, fun x => (o.Rows.length - x).toNat, ⟨0, o.Rows.length, rfl, by omega, rfl⟩, ?_⟩
    rintro _ ⟨k, f, rfl, hkf, hgo⟩
    refine ⟨fun hx => ⟨⟨by omega, by simpa using hx⟩, ?_⟩, fun hx => ?_⟩
    · rw [decide_eq_true_eq] at hx
      obtain ⟨f, rfl⟩ : ∃ j, f = j + 1 := ⟨f - 1, by omega⟩
      rw [rowsGo] at hgo
      rintro _ rfl
      unfold object_row
      rw [bne_iff_ne, bne_eq_false_iff_eq]
      refine ⟨fun he => by rw [if_pos he] at hgo; exact hgo, fun he => ?_⟩
      rw [if_neg (by omega)] at hgo
      rw [wrp (by omega) (by omega)]
      exact ⟨⟨k + 1, f, by simp, by omega, hgo⟩, by dsimp only; omega⟩
    · rw [decide_eq_false_iff_not] at hx
      have : f = 0 := by omega
      subst this
      unfold VC31_J2
      rw [← hgo, rowsGo]
      have : k = o.Rows.length := by omega
      rw [this]
  have w1 : object_within (IntKind.i64.wrap (o.States - 1)) 32 = true ↔ ¬ (o.States < 1 ∨ o.States > 32) := by
    rw [(within_iff _ _).1, wdef]; omega
  have w2 : object_within (IntKind.i64.wrap (o.Kinds - 1)) 64 = true ↔ ¬ (o.Kinds < 1 ∨ o.Kinds > 64) := by
    rw [(within_iff _ _).1, wdef]; omega
  rintro _ rfl
  refine ⟨fun h => j1 true ⟨fun _ => ?_, fun _ => rfl⟩, fun h => ?_⟩
  · rw [Bool.not_eq_true', ← Bool.not_eq_true, w1] at h; unfold headBad; omega
  · rw [Bool.not_eq_false', w1] at h
    rintro _ rfl
    refine ⟨fun h2 => j1 true ⟨fun _ => ?_, fun _ => rfl⟩, fun h2 => ?_⟩
    · rw [Bool.not_eq_true', ← Bool.not_eq_true, w2] at h2; unfold headBad; omega
    · rw [Bool.not_eq_false', w2] at h2
      rintro _ rfl
      refine j1 _ ?_
      rw [Bool.not_eq_true', (within_iff _ _).2]
      unfold headBad; omega
theorem v44 (o : Api_Object) (s : Int) (h : preO1 o s) : VC44 o s (fun r => r = run_may o s) := by
  unfold VC44
  intro _
  refine ⟨h, ?_⟩
  rintro _ rfl
  simp only [Bool.or_eq_true, decide_eq_true_eq, Bool.or_eq_false_iff, decide_eq_false_iff_not, bne_iff_ne, bne_eq_false_iff_eq]
  unfold run_may object_Check
  refine ⟨fun h => by rw [if_pos h], fun h => ⟨fun h2 => by rw [if_neg (by omega), if_pos h2], fun h2 => by rw [if_neg (by omega), if_neg (by omega)]⟩⟩
theorem v45 (o : Api_Object) (l : List Api_Oper) (s : Int) : VC45 o l s (fun r => r = run_runner o l s) := by
  intro _ _; rfl
theorem v68 (p : Api_Pick) (l : List Api_Oper) (u : List (Int × Int)) (o : Api_Object) (s : Int) : VC68 p l u o s (fun r => r = run_runner_1 p l u o s) := by
  unfold VC68
  intro _ _
  simp only [Bool.or_eq_true, decide_eq_true_eq, Bool.or_eq_false_iff, decide_eq_false_iff_not]
  unfold run_runner_1
  refine ⟨fun h => by rw [if_pos h], fun h => ⟨fun h2 => by rw [if_neg (by omega), if_pos h2], fun h2 => ⟨⟨by omega, by omega⟩, ?_⟩⟩⟩
  rintro _ rfl
  rw [if_neg (by omega), if_neg h2]
  have key : ∀ e, e = tailErr o l s p →
      VC68_J1 p u s (fun r => r = if (tail1 o l s p).2 ≠ 0 then (0, (tail1 o l s p).2, usedUp u p.Oper, s) else ((tail1 o l s p).1, 0, usedUp u p.Oper, (tail1 o l s p).1)) (run_Step o s (gi l p.Oper).Kind p.Result) e := by
    rintro e rfl
    unfold VC68_J1 tail1
    simp only [bne_iff_ne, bne_eq_false_iff_eq]
    refine ⟨fun he => ?_, fun he => ?_⟩
    · rw [if_pos he, if_pos he]; rfl
    · rw [if_neg (c := tailErr o l s p ≠ 0) (fun h => h he), if_neg (by simp)]; rfl
  unfold tailErr at key
  refine ⟨fun hc => ?_, fun hc => ?_⟩
  · simp only [Bool.and_eq_true, beq_iff_eq, bne_iff_ne] at hc
    refine key 40 ?_
    rw [if_pos ⟨hc.1.1, hc.1.2, hc.2⟩]
  · refine key _ ?_
    rw [if_neg]; · rfl
    rintro ⟨a, b, c⟩
    have : ((run_Step o s (gi l p.Oper).Kind p.Result).2 == 0 && (gi l p.Oper).End != -1 && (gi l p.Oper).Result != p.Result) = true := by
      rw [Bool.and_eq_true, Bool.and_eq_true, beq_iff_eq, bne_iff_ne, bne_iff_ne]; exact ⟨⟨a, b⟩, c⟩
    rw [this] at hc; cases hc
theorem v14 (o : Api_Object) (l : List Api_Oper) (p : List Api_Pick) (h : preO2 o l p) : VC14 o l p (fun r => r = run_Picks o l p) := by
  unfold VC14
  intro _ _ _
  refine ⟨h.1, ?_⟩
  rintro _ rfl; rfl
end Go.Proofs.Ytnhdgebboafliaa
