/- Plain lemmas about the specification functions. Conditions: in each lemma. -/
import Derived.Test.YtlpcjbjlgeaapaaUVC
set_option linter.all false
namespace Go.Proofs.Ytlpcjbjlgeaapaa
open Go Go.Sv Go.Pu
theorem v21 (s : Numbering_Size) : VC21 s (fun r => r = numbering_Check s) := by
  simp only [VC21, numbering_Check, ref31_Check, Bool.or_eq_true, decide_eq_true_eq, Bool.or_eq_false_iff, decide_eq_false_iff_not]
  constructor <;> intro h
  · rw [if_pos (by omega)]
  · rw [if_neg (by omega)]
theorem v22 (ops states : Int) : VC22 ops states (fun r => r = ref31_Check ops states) := by
  simp only [VC22, ref31_Check, Bool.or_eq_true, decide_eq_true_eq, Bool.or_eq_false_iff, decide_eq_false_iff_not]
  constructor <;> intro h
  · rw [if_pos (by omega)]
  · rw [if_neg (by omega)]
theorem v56 (s : Numbering_Size) (k : Int) : VC56 s k (fun r => r = numbering_Size_block s k) := by
  simp only [VC56, numbering_Size_block, beq_iff_eq, beq_eq_false_iff_ne]
  refine ⟨fun h => by rw [if_pos h], fun h => ⟨fun h2 => by rw [if_neg h, if_pos h2], fun h2 => by rw [if_neg h, if_neg h2]⟩⟩
theorem check0 {o s : Int} (h : ref31_Check o s = 0) : 0 ≤ o ∧ o ≤ 64 ∧ 1 ≤ s ∧ s ≤ 32 := by
  unfold ref31_Check at h; split at h <;> omega
theorem check2 (o s : Int) : ref31_Check o s = 0 ∨ ref31_Check o s = 2 := by
  unfold ref31_Check; split <;> simp
theorem block_eq {s : Numbering_Size} (h : numbering_Check s = 0) (k : Int) : numbering_Size_block s k = (base s k, wide s k, tall s k) := by
  obtain ⟨h0, h1, h2, h3⟩ := check0 h
  have hm := mulb h0 h1 h0 h1
  unfold numbering_Size_block base wide tall
  split
  · rfl
  · split
    · rw [wrp (by omega) (by omega)]
    · rw [wrp (n := s.Ops * s.Ops) (by omega) (by omega), wrp (by omega) (by omega), wrp (by omega) (by omega)]
theorem v23 (s : Numbering_Size) : VC23 s (fun r => r = numbering_Vars s) := by
  unfold VC23
  intro r hr
  subst hr
  refine ⟨fun h => ?_, fun h => ?_⟩
  · have h : numbering_Check s ≠ 0 := by simpa using h
    simp [numbering_Vars, h]
  · have h : numbering_Check s = 0 := by simpa using h
    intro r hr
    subst hr
    obtain ⟨h0, h1, h2, h3⟩ := check0 h
    have hm := mulb h0 h1 h0 h1
    have hn := mulb (a := s.States) (b := s.Ops + 1) (by omega) h3 (by omega) (by omega : s.Ops + 1 ≤ 65)
    rw [block_eq h]
    simp only [base, wide, tall, numbering_Vars, h, if_true]
    simp only [show (3 : Int) ≠ 1 by decide, show (3 : Int) ≠ 2 by decide, if_false]
    rw [wrp (n := s.States * (s.Ops + 1)) (by omega) (by omega), wrp (by omega) (by omega)]
theorem wide_b {s : Numbering_Size} (h : numbering_Check s = 0) (k : Int) : 0 ≤ wide s k ∧ wide s k ≤ 64 ∧ 0 ≤ tall s k ∧ tall s k ≤ 65 ∧ 0 ≤ base s k ∧ base s k ≤ 4160 := by
  obtain ⟨h0, h1, h2, h3⟩ := check0 h
  have hm := mulb h0 h1 h0 h1
  unfold wide tall base
  split
  · omega
  · split <;> omega
theorem v24 (s : Numbering_Size) (n : Numbering_Name) : VC24 s n (fun r => r = numbering_Var s n) := by
  unfold VC24
  intro r hr
  subst hr
  simp only [Bool.or_eq_true, decide_eq_true_eq, Bool.or_eq_false_iff, decide_eq_false_iff_not, bne_iff_ne, bne_eq_false_iff_eq]
  refine ⟨fun h => ?_, fun h => ?_⟩
  · unfold numbering_Var; rw [if_neg]; intro hh; rcases h with (h | h) | h
    · exact h hh.1
    · omega
    · omega
  · intro r hr
    subst hr
    obtain ⟨⟨hc, hk0⟩, hk1⟩ := h
    rw [block_eq hc]
    have hb := wide_b hc n.Kind
    refine ⟨fun h => ?_, fun h => ?_⟩
    · unfold numbering_Var; rw [if_neg]; intro hh; simp only at h; omega
    · simp only at h ⊢
      have hm := mulb (a := n.A) (b := wide s n.Kind) (A := 65) (B := 64) (by omega) (by omega) (by omega) (by omega)
      unfold numbering_Var
      rw [if_pos ⟨hc, by omega, by omega, by omega, by omega, by omega, by omega⟩]
      rw [wrp (n := n.A * _) (by omega) (by omega), wrp (n := _ + n.A * _) (by omega) (by omega), wrp (n := _ + n.B) (by omega) (by omega), wrp (by omega) (by omega)]
theorem gi_ext {α : Type} [Inhabited α] {a b : List α} (hl : a.length = b.length) (h : ∀ j : Int, 0 ≤ j → j < a.length → gi a j = gi b j) : a = b := by
  apply List.ext_getElem hl
  intro i h1 h2
  have := h i (by omega) (by omega)
  rwa [gi_nat _ _ h1, gi_nat _ _ h2] at this
theorem v34 (a b : List Int) : VC34 a b (fun r => r = ref01_SameInts a b) := by
  unfold VC34
  intro ha hb
  simp only [sm] at ha hb
  refine ⟨fun h => ?_, fun h => ?_⟩
  · have : a ≠ b := by rintro rfl; simp at h
    simp [ref01_SameInts, this]
  · have hl : a.length = b.length := by simp at h; omega
    refine ⟨fun i => 0 ≤ i ∧ i ≤ a.length ∧ ∀ j : Int, 0 ≤ j → j < i → gi a j = gi b j, fun i => (a.length - i).toNat, ⟨by omega, by omega, fun j h0 h1 => by omega⟩, ?_⟩
    rintro i ⟨h0, h1, h2⟩
    simp only [decide_eq_true_eq, decide_eq_false_iff_not, bne_iff_ne, bne_eq_false_iff_eq]
    refine ⟨fun hi => ⟨by omega, by omega, fun hne => ?_, fun he => ?_⟩, fun hi => ?_⟩
    · have : a ≠ b := by rintro rfl; exact hne rfl
      simp [ref01_SameInts, this]
    · rw [wrp (by omega) (by omega)]
      refine ⟨⟨by omega, by omega, fun j j0 j1 => ?_⟩, by omega⟩
      by_cases hj : j < i
      · exact h2 j j0 hj
      · rw [show j = i by omega]; exact he
    · have : a = b := gi_ext hl (fun j j0 j1 => h2 j j0 (by omega))
      simp [VC34_J1, ref01_SameInts, this]
theorem v31 (a b : List (List Int)) : VC31 a b (fun r => r = ref04_SameRows a b) := by
  unfold VC31
  intro ha hb
  simp only [sm] at ha hb
  refine ⟨fun h => ?_, fun h => ?_⟩
  · have : a ≠ b := by rintro rfl; simp at h
    simp [ref04_SameRows, this]
  · have hl : a.length = b.length := by simp at h; omega
    refine ⟨fun i => 0 ≤ i ∧ i ≤ a.length ∧ ∀ j : Int, 0 ≤ j → j < i → gi a j = gi b j, fun i => (a.length - i).toNat, ⟨by omega, by omega, fun j h0 h1 => by omega⟩, ?_⟩
    rintro i ⟨h0, h1, h2⟩
    simp only [decide_eq_true_eq, decide_eq_false_iff_not]
    refine ⟨fun hi => ⟨by omega, fun _ => ⟨by omega, fun _ => ?_⟩⟩, fun hi => ?_⟩
    · intro r hr
      subst hr
      refine ⟨fun hne => ?_, fun he => ?_⟩
      · have : a ≠ b := by rintro rfl; simp [ref01_SameInts] at hne
        simp [ref04_SameRows, this]
      · have he : gi a i = gi b i := by simpa [ref01_SameInts] using he
        rw [wrp (by omega) (by omega)]
        refine ⟨⟨by omega, by omega, fun j j0 j1 => ?_⟩, by omega⟩
        by_cases hj : j < i
        · exact h2 j j0 hj
        · rw [show j = i by omega]; exact he
    · have : a = b := gi_ext hl (fun j j0 j1 => h2 j j0 (by omega))
      simp [VC31_J1, ref04_SameRows, this]
theorem drop_gi {α : Type} [Inhabited α] {l : List α} {i : Nat} (h : i < l.length) : l.drop i = gi l (i : Int) :: l.drop (i + 1) := by
  rw [gi_nat _ _ h, List.drop_eq_getElem_cons h]
theorem find_at {α : Type} [Inhabited α] {l : List α} {f : α → Bool} {i : Int} (h0 : 0 ≤ i) (h1 : i < l.length) (h : f (gi l i) = true) (h2 : ∀ j : Int, 0 ≤ j → j < i → f (gi l j) = false) : l.findIdx? f = some i.toNat := by
  rw [List.findIdx?_eq_some_iff_getElem]
  refine ⟨by omega, ?_, fun j hj => ?_⟩
  · rw [gi_cast h0 h1] at h; exact h
  · have := h2 j (by omega) (by omega)
    rw [gi_nat _ _ (by omega)] at this
    simp [this]
theorem find_no {α : Type} [Inhabited α] {l : List α} {f : α → Bool} (h2 : ∀ j : Int, 0 ≤ j → j < l.length → f (gi l j) = false) : l.findIdx? f = none := by
  rw [List.findIdx?_eq_none_iff]
  intro x hx
  obtain ⟨i, hi, rfl⟩ := List.getElem_of_mem hx
  have := h2 i (by omega) (by omega)
  rwa [gi_nat _ _ hi] at this
theorem idx_at {l : List Int} {v i : Int} (h0 : 0 ≤ i) (h1 : i < l.length) (h : gi l i = v) (h2 : ∀ j : Int, 0 ≤ j → j < i → gi l j ≠ v) : idx l v = i := by
  unfold idx
  rw [find_at (f := fun x => x == v) h0 h1 (by simpa using h) (fun j j0 j1 => by simpa using h2 j j0 j1)]
  dsimp only; omega
theorem idx_no {l : List Int} {v : Int} (h2 : ∀ j : Int, 0 ≤ j → j < l.length → gi l j ≠ v) : idx l v = -1 := by
  unfold idx
  rw [find_no (f := fun x => x == v) (fun j j0 j1 => by simpa using h2 j j0 j1)]
theorem idx_mem {l : List Int} {v : Int} : 0 ≤ idx l v ↔ v ∈ l := by
  unfold idx
  cases h : l.findIdx? (fun x => x == v) with
  | none =>
    rw [List.findIdx?_eq_none_iff] at h
    dsimp only
    constructor
    · intro h; omega
    · intro hm; have := h v hm; simp at this
  | some i =>
    rw [List.findIdx?_eq_some_iff_getElem] at h
    obtain ⟨hi, he, _⟩ := h
    have he : l[i] = v := by simpa using he
    dsimp only
    constructor
    · intro _; rw [← he]; exact List.getElem_mem _
    · intro _; omega
theorem idx_spec {l : List Int} {v : Int} (h : 0 ≤ idx l v) : idx l v < l.length ∧ gi l (idx l v) = v := by
  unfold idx at h ⊢
  cases hf : l.findIdx? (fun x => x == v) with
  | none => rw [hf] at h; simp at h
  | some i =>
    rw [List.findIdx?_eq_some_iff_getElem] at hf
    obtain ⟨hi, he, _⟩ := hf
    dsimp only
    refine ⟨by omega, ?_⟩
    rw [gi_nat _ _ hi]
    simpa using he
theorem v64 (l : List Int) (v : Int) : VC64 l v (fun r => r = slices_Index_int_int l v) := by
  unfold VC64
  intro hl
  simp only [sm] at hl
  refine ⟨fun i => 0 ≤ i ∧ i ≤ l.length ∧ ∀ j : Int, 0 ≤ j → j < i → gi l j ≠ v, fun i => (l.length - i).toNat, ⟨by omega, by omega, fun j h0 h1 => by omega⟩, ?_⟩
  rintro i ⟨h0, h1, h2⟩
  simp only [decide_eq_true_eq, decide_eq_false_iff_not]
  refine ⟨fun hi => ⟨⟨by omega, by omega⟩, fun he => ?_, fun he => ?_⟩, fun hi => ?_⟩
  · exact (idx_at h0 hi (by rw [beq_iff_eq] at he; exact he.symm) h2).symm
  · rw [wrp (by omega) (by omega)]
    refine ⟨⟨by omega, by omega, fun j j0 j1 => ?_⟩, by omega⟩
    by_cases hj : j < i
    · exact h2 j j0 hj
    · rw [show j = i by omega]; intro h; rw [h] at he; simp at he
  · exact (idx_no (fun j j0 j1 => h2 j j0 (by omega))).symm
theorem v68 (l : List Int) (v : Int) : VC68 l v (fun r => r = slices_Contains_int_int l v) := by
  intro _ r hr
  subst hr
  unfold slices_Contains_int_int slices_Index_int_int
  rw [Bool.eq_iff_iff, decide_eq_true_eq, decide_eq_true_eq]
  exact idx_mem
theorem v67 (p : Int × Int) (n : Int) : VC67 p n (fun r => r = times_proper p n) := by
  unfold VC67 times_proper
  show _ = _
  rw [Bool.eq_iff_iff]
  simp only [Bool.and_eq_true, decide_eq_true_eq, bne_iff_ne]
  constructor
  · rintro ⟨⟨h1, h2⟩, h3⟩
    split at h1 <;> split at h2 <;> refine ⟨?_, ?_, ?_, ?_, h3⟩ <;> omega
  · rintro ⟨h1, h2, h3, h4, h5⟩
    refine ⟨⟨?_, ?_⟩, h5⟩ <;> split <;> omega
theorem v66 (p : Int × Int) (n x : Int) (out : List Int) : VC66 p n x out (fun r => r = times_Sort_1_1 p n x out) := by
  unfold VC66
  intro _ r hr
  subst hr
  refine ⟨fun h => ?_, fun h => ?_⟩
  · intro r hr
    subst hr
    have h : (times_proper p n && p.2 == x) = true := h
    unfold times_Sort_1_1 slices_Contains_int_int
    rw [h]; rfl
  · have h : (times_proper p n && p.2 == x) = false := h
    unfold times_Sort_1_1
    rw [h]; rfl
theorem v80_66 (l : List (Int × Int)) (n x : Int) (out : List Int) : VC80_66 l n x out (fun r => r = slices_IndexFunc_2_int_2_int_times_Sort_1_1 l n x out) := by
  unfold VC80_66
  intro hl _
  simp only [sm] at hl
  refine ⟨fun i => 0 ≤ i ∧ i ≤ l.length ∧ ∀ j : Int, 0 ≤ j → j < i → times_Sort_1_1 (gi l j) n x out = false, fun i => (l.length - i).toNat, ⟨by omega, by omega, fun j h0 h1 => by omega⟩, ?_⟩
  rintro i ⟨h0, h1, h2⟩
  simp only [decide_eq_true_eq, decide_eq_false_iff_not]
  refine ⟨fun hi => ⟨⟨by omega, by omega⟩, ?_⟩, fun hi => ?_⟩
  · intro r hr
    subst hr
    refine ⟨fun he => ?_, fun he => ?_⟩
    · unfold slices_IndexFunc_2_int_2_int_times_Sort_1_1
      rw [find_at (f := fun p => times_Sort_1_1 p n x out) h0 hi he h2]
      dsimp only; omega
    · rw [wrp (by omega) (by omega)]
      refine ⟨⟨by omega, by omega, fun j j0 j1 => ?_⟩, by omega⟩
      by_cases hj : j < i
      · exact h2 j j0 hj
      · rw [show j = i by omega]; exact he
  · unfold VC80_66_J1 slices_IndexFunc_2_int_2_int_times_Sort_1_1
    rw [find_no (f := fun p => times_Sort_1_1 p n x out) (fun j j0 j1 => h2 j j0 (by omega))]
theorem v69_66 (l : List (Int × Int)) (n x : Int) (out : List Int) : VC69_66 l n x out (fun r => r = slices_ContainsFunc_2_int_2_int_times_Sort_1_1 l n x out) := by
  unfold VC69_66
  intro _ _ r hr
  subst hr
  unfold slices_IndexFunc_2_int_2_int_times_Sort_1_1 slices_ContainsFunc_2_int_2_int_times_Sort_1_1
  cases h : l.findIdx? (fun p => times_Sort_1_1 p n x out) with
  | none =>
    rw [List.findIdx?_eq_none_iff] at h
    dsimp only
    have : l.any (fun p => times_Sort_1_1 p n x out) = false := by
      rw [List.any_eq_false]; intro y hy; simp [h y hy]
    rw [this]; decide
  | some i =>
    rw [List.findIdx?_eq_some_iff_getElem] at h
    obtain ⟨hi, he, _⟩ := h
    dsimp only
    have : l.any (fun p => times_Sort_1_1 p n x out) = true := by
      rw [List.any_eq_true]; exact ⟨_, List.getElem_mem _, he⟩
    rw [this]; simp
theorem v65 (x n : Int) (out : List Int) (pairs : List (Int × Int)) : VC65 x n out pairs (fun r => r = times_Sort_1 x n out pairs) := by
  unfold VC65
  intro _ _ r hr
  subst hr
  unfold times_Sort_1 slices_Contains_int_int
  refine ⟨fun h => by rw [h]; rfl, fun h => ?_⟩
  intro r hr
  subst hr
  rw [h]; rfl
theorem next_at {n : Int} {pairs : List (Int × Int)} {out : List Int} {t : Nat} (h : (t : Int) < n) (hw : times_Sort_1 t n out pairs = false) (h2 : ∀ y : Nat, y < t → times_Sort_1 y n out pairs = true) : nextOf n pairs out = some t := by
  unfold nextOf
  rw [List.find?_range_eq_some]
  refine ⟨by simp [hw], by rw [List.mem_range]; omega, fun y hy => by simp [h2 y hy]⟩
theorem next_no {n : Int} {pairs : List (Int × Int)} {out : List Int} (h2 : ∀ y : Nat, (y : Int) < n → times_Sort_1 y n out pairs = true) : nextOf n pairs out = none := by
  unfold nextOf
  rw [List.find?_range_eq_none]
  intro y hy
  simp [h2 y (by omega)]
theorem v40 (n : Int) (pairs : List (Int × Int)) : VC40 n pairs (fun r => r = times_Sort n pairs) := by
  unfold VC40
  intro _
  simp only [Bool.or_eq_true, decide_eq_true_eq, Bool.or_eq_false_iff, decide_eq_false_iff_not]
  refine ⟨fun h => ?_, fun h => ?_⟩
  · unfold times_Sort; rw [if_pos (by omega)]
  · obtain ⟨n0, n1⟩ := h
    have et : times_Sort n pairs = sortGo n pairs n.toNat [] := by unfold times_Sort; rw [if_neg (by omega)]
    rw [et]
    refine ⟨by omega, fun out => ∃ k : Nat, ((out.length + k : Nat) : Int) = n ∧ sortGo n pairs k out = sortGo n pairs n.toNat [], fun out => (n - out.length).toNat, ⟨n.toNat, by simp; omega, by simp⟩, ?_⟩
    rintro out ⟨k, hk, hgo⟩
    refine ⟨fun hlt => ?_, fun hge => ?_⟩
    · obtain ⟨k, rfl⟩ : ∃ j, k = j + 1 := ⟨k - 1, by omega⟩
      refine ⟨fun x o => o = out ∧ ∃ t : Nat, x = t ∧ (t : Int) ≤ n ∧ ∀ y : Nat, y < t → times_Sort_1 y n out pairs = true, fun x _ => (n - x).toNat, ⟨rfl, 0, rfl, by omega, fun y hy => by omega⟩, ?_⟩
      rintro _ _ ⟨rfl, t, rfl, ht, hw⟩
      refine ⟨fun hx => ?_, fun hx => ?_⟩
      · intro r hr
        subst hr
        unfold VC40_J3
        refine ⟨fun hwt => ?_, fun hwf => ?_⟩
        · rw [wrp (by omega) (by omega)]
          refine ⟨⟨rfl, t + 1, by simp, by omega, fun y hy => ?_⟩, by dsimp only; omega⟩
          by_cases hyt : y < t
          · exact hw y hyt
          · rw [show y = t by omega]; exact hwt
        · unfold VC40_J2
          refine ⟨fun he => ?_, fun _ => ⟨?_, ⟨k, ?_, ?_⟩, ?_⟩⟩
          · rw [beq_iff_eq] at he; omega
          · simp only [List.length_cons, List.length_nil]; omega
          · simp only [List.length_append, List.length_cons, List.length_nil]; omega
          · rw [← hgo, sortGo, next_at hx hwf hw]
          · simp only [List.length_append, List.length_cons, List.length_nil]; omega
      · have : (t : Int) = n := by omega
        unfold VC40_J3
        refine ⟨(fun h => by cases h), fun _ => ?_⟩
        unfold VC40_J2
        refine ⟨fun _ => ?_, fun he => ?_⟩
        · rw [← hgo, sortGo, next_no (fun y hy => hw y (by omega))]
        · rw [this] at he; simp at he
    · have : k = 0 := by omega
      subst this
      unfold VC40_J1
      rw [← hgo]; rfl
theorem v63 (x : Int) (order : List Int) : VC63 x order (fun r => r = times_Against_1 x order) := by
  intro _ r hr; exact hr.symm
theorem v38 (order : List Int) (pairs : List (Int × Int)) : VC38 order pairs (fun r => r = times_Against order pairs) := by
  unfold VC38
  intro _ hl
  simp only [sm] at hl
  refine ⟨fun i => 0 ≤ i ∧ i ≤ pairs.length ∧ ∀ j : Int, 0 ≤ j → j < i → badPair order (gi pairs j) = false, fun i => (pairs.length - i).toNat, ⟨by omega, by omega, fun j h0 h1 => by omega⟩, ?_⟩
  rintro i ⟨h0, h1, h2⟩
  have e : badPair order (gi pairs i) = (decide (times_Against_1 (gi pairs i).1 order ≥ 0) && decide (times_Against_1 (gi pairs i).2 order ≥ 0) && decide (times_Against_1 (gi pairs i).2 order < times_Against_1 (gi pairs i).1 order)) := by
    unfold badPair times_Against_1
    rw [Bool.eq_iff_iff]
    simp only [Bool.and_eq_true, decide_eq_true_eq]
    omega
  refine ⟨fun hi => ⟨⟨by omega, by simpa using hi⟩, ?_⟩, fun hi => ?_⟩
  · rintro _ rfl _ rfl
    rw [decide_eq_true_eq] at hi
    rw [← e]
    refine ⟨fun he => ?_, fun he => ?_⟩
    · unfold times_Against
      rw [find_at h0 hi he h2]
      dsimp only; rw [show ((i.toNat : Nat) : Int) = i by omega]
    · rw [wrp (by omega) (by omega)]
      refine ⟨⟨by omega, by omega, fun j j0 j1 => ?_⟩, by dsimp only; omega⟩
      by_cases hj : j < i
      · exact h2 j j0 hj
      · rw [show j = i by omega]; exact he
  · rw [decide_eq_false_iff_not] at hi
    unfold VC38_J1 times_Against
    rw [find_no (fun j j0 j1 => h2 j j0 (by omega))]
theorem v70 (a b : Int) (s : Numbering_Size) : VC70 a b s (fun r => r = times_Clauses_1 a b s) := by
  intro r hr; exact hr.symm
theorem pairCl_succ (s : Numbering_Size) (p : Int × Int) (n : Nat) : pairCl s p (n + 1) = pairCl s p n ++ (List.range n).map (pairRow s p n) := by
  unfold pairCl
  rw [List.range_succ, List.flatMap_append]; simp
theorem pairCl_le (s : Numbering_Size) (p : Int × Int) : ∀ n : Nat, n ≤ 64 → (pairCl s p n).length ≤ 64 * n
  | 0, _ => by simp [pairCl]
  | n + 1, h => by
    have := pairCl_le s p n (by omega)
    rw [pairCl_succ, List.length_append, List.length_map, List.length_range]
    omega
theorem pairAll_le {s : Numbering_Size} (h : s.Ops ≤ 64) (p : Int × Int) : (pairAll s p).length ≤ 4096 := by
  unfold pairAll
  split
  · have := pairCl_le s p s.Ops.toNat (by omega); omega
  · simp
theorem alls_le {s : Numbering_Size} (h : s.Ops ≤ 64) : ∀ l : List (Int × Int), (l.flatMap (pairAll s)).length ≤ 4096 * l.length
  | [] => by simp
  | p :: l => by
    have h1 := alls_le h l
    have h2 := pairAll_le h p
    rw [List.flatMap_cons, List.length_append, List.length_cons]
    omega
theorem take_all {s : Numbering_Size} {l : List (Int × Int)} {t : Nat} (h : t < l.length) : (l.take (t + 1)).flatMap (pairAll s) = (l.take t).flatMap (pairAll s) ++ pairAll s (gi l t) := by
  rw [List.take_succ_eq_append_getElem h, List.flatMap_append, gi_nat _ _ h]; simp
theorem range_succ_map {α : Type} (f : Nat → α) (n : Nat) : (List.range (n + 1)).map f = (List.range n).map f ++ [f n] := by
  rw [List.range_succ, List.map_append]; rfl
theorem v42 (s : Numbering_Size) (pairs : List (Int × Int)) (h : preCl s pairs) : VC42 s pairs (fun r => r = times_Clauses s pairs) := by
  have hp : pairs.length ≤ 1000 := h
  unfold VC42
  intro _ r hr
  subst hr
  simp only [bne_iff_ne, bne_eq_false_iff_eq]
  refine ⟨fun h => ?_, fun hc => ?_⟩
  · unfold times_Clauses; rw [if_neg h]
  · obtain ⟨h0, h1, h2, h3⟩ := check0 hc
    simp only [decide_eq_true_eq, decide_eq_false_iff_not]
    refine ⟨fun out x => ∃ t : Nat, x = t ∧ t ≤ pairs.length ∧ out = (pairs.take t).flatMap (pairAll s), fun _ x => (pairs.length - x).toNat, ⟨0, rfl, by omega, by simp⟩, ?_⟩
    rintro _ _ ⟨t, rfl, ht, rfl⟩
    have hl := alls_le (s := s) h1 (pairs.take t)
    rw [List.length_take, Nat.min_eq_left ht] at hl
    refine ⟨fun hx => ⟨⟨by omega, hx⟩, fun r hr => ?_⟩, fun hx => ?_⟩
    · subst hr
      have hx : t < pairs.length := by omega
      refine ⟨fun hf => ?_, fun hf => ?_⟩
      · unfold VC42_J2
        rw [wrp (by omega) (by omega)]
        refine ⟨⟨t + 1, by simp, by omega, ?_⟩, by dsimp only; omega⟩
        have hf : times_proper (gi pairs t) s.Ops = false := by simpa using hf
        rw [take_all hx, pairAll, if_neg (by rw [hf]; decide), List.append_nil]
      · have hf : times_proper (gi pairs t) s.Ops = true := by simpa using hf
        refine ⟨fun out a => ∃ u : Nat, a = u ∧ (u : Int) ≤ s.Ops ∧ out = (pairs.take t).flatMap (pairAll s) ++ pairCl s (gi pairs t) u, fun _ a => (s.Ops - a).toNat, ⟨0, rfl, by omega, by simp [pairCl]⟩, ?_⟩
        rintro _ _ ⟨u, rfl, hu, rfl⟩
        have hcl := pairCl_le s (gi pairs t) u (by omega)
        refine ⟨fun ha => ?_, fun ha => ?_⟩
        · refine ⟨fun out b => ∃ v : Nat, b = v ∧ v ≤ u ∧ out = (pairs.take t).flatMap (pairAll s) ++ (pairCl s (gi pairs t) u ++ (List.range v).map (pairRow s (gi pairs t) u)), fun _ b => (u - b).toNat, ⟨0, rfl, by omega, by simp⟩, ?_⟩
          rintro _ _ ⟨v, rfl, hv, rfl⟩
          refine ⟨fun hb => ?_, fun hb => ?_⟩
          · rintro _ rfl _ rfl
            rw [wrp (n := (v : Int) + 1) (by omega) (by omega)]
            refine ⟨?_, ⟨v + 1, by simp, by omega, ?_⟩, by dsimp only; omega⟩
            · simp only [List.length_append, List.length_map, List.length_range, List.length_cons, List.length_nil]; omega
            · rw [range_succ_map]; simp [pairRow, times_Clauses_1, negw]
          · have : v = u := by omega
            subst this
            unfold VC42_J3
            rw [wrp (by omega) (by omega)]
            refine ⟨⟨v + 1, by simp, by omega, ?_⟩, by dsimp only; omega⟩
            rw [pairCl_succ]
        · have : u = s.Ops.toNat := by omega
          subst this
          unfold VC42_J2
          rw [wrp (by omega) (by omega)]
          refine ⟨⟨t + 1, by simp, by omega, ?_⟩, by dsimp only; omega⟩
          rw [take_all hx, pairAll, if_pos hf]
    · have : t = pairs.length := by omega
      subst this
      unfold VC42_J1 times_Clauses
      rw [if_pos hc, List.take_length]
theorem v37 : VC37 (fun r => r = law33_awake) := by
  have e1 : times_Clauses ⟨2, 1⟩ [(0, 1)] = [[-2, -3]] := by decide
  have e2 : times_Against [1, 0] [(0, 1)] = (0, false) := by decide
  have e3 : times_Against [0, 1] [(0, 1)] = (1, true) := by decide
  have e4 : times_Sort 3 [(2, 0)] = ([1, 2, 0], true) := by decide
  have e5 : times_Sort 2 [(0, 1), (1, 0)] = ([], false) := by decide
  unfold VC37
  simp only [e1, e2, e3, e4, e5, forall_eq', ref04_SameRows, ref01_SameInts, law33_awake]
  simp
  show [((0 : Int), (1 : Int))].length ≤ 1000
  decide
end Go.Proofs.Ytlpcjbjlgeaapaa
