/- Plain lemmas about the specification functions. Conditions: in each lemma. -/
import Derived.Test.YtlpcjbjlgeaapaaPVC
set_option linter.all false
namespace Go.Proofs.Ytlpcjbjlgeaapaa
open Go Go.Sv Go.Pu
theorem v21 (s : Numbering_Size) : VC21 s (fun r => r = numbering_Check s) := by
  simp only [VC21, numbering_Check, ref31_Check, Bool.or_eq_true, decide_eq_true_eq, Bool.or_eq_false_iff, decide_eq_false_iff_not]
  constructor <;> intro h
  · rw [if_pos (by omega)]
  · rw [if_neg (by omega)]
theorem v22 (ops states : Int) : VC22 ops states (fun r => r = ref31_Check ops states) := by
  simp only [VC22, ref31_Check, Bool.or_eq_true, decide_eq_true_eq, Bool.or_eq_false_iff, decide_eq_false_iff_not]
  constructor <;> intro h
  · rw [if_pos (by omega)]
  · rw [if_neg (by omega)]
theorem v56 (s : Numbering_Size) (k : Int) : VC56 s k (fun r => r = numbering_Size_block s k) := by
  simp only [VC56, numbering_Size_block, beq_iff_eq, beq_eq_false_iff_ne]
  refine ⟨fun h => by rw [if_pos h], fun h => ⟨fun h2 => by rw [if_neg h, if_pos h2], fun h2 => by rw [if_neg h, if_neg h2]⟩⟩
theorem check0 {o s : Int} (h : ref31_Check o s = 0) : 0 ≤ o ∧ o ≤ 64 ∧ 1 ≤ s ∧ s ≤ 32 := by
  unfold ref31_Check at h; split at h <;> omega
theorem check2 (o s : Int) : ref31_Check o s = 0 ∨ ref31_Check o s = 2 := by
  unfold ref31_Check; split <;> simp
theorem block_eq {s : Numbering_Size} (h : numbering_Check s = 0) (k : Int) : numbering_Size_block s k = (base s k, wide s k, tall s k) := by
  obtain ⟨h0, h1, h2, h3⟩ := check0 h
  have hm := mulb h0 h1 h0 h1
  unfold numbering_Size_block base wide tall
  split
  · rfl
  · split
    · rw [wrp (by omega) (by omega)]
    · rw [wrp (n := s.Ops * s.Ops) (by omega) (by omega), wrp (by omega) (by omega), wrp (by omega) (by omega)]
theorem v23 (s : Numbering_Size) : VC23 s (fun r => r = numbering_Vars s) := by
  unfold VC23
  intro r hr
  subst hr
  refine ⟨fun h => ?_, fun h => ?_⟩
  · have h : numbering_Check s ≠ 0 := by simpa using h
    simp [numbering_Vars, h]
  · have h : numbering_Check s = 0 := by simpa using h
    intro r hr
    subst hr
    obtain ⟨h0, h1, h2, h3⟩ := check0 h
    have hm := mulb h0 h1 h0 h1
    have hn := mulb (a := s.States) (b := s.Ops + 1) (by omega) h3 (by omega) (by omega : s.Ops + 1 ≤ 65)
    rw [block_eq h]
    simp only [base, wide, tall, numbering_Vars, h, if_true]
    simp only [show (3 : Int) ≠ 1 by decide, show (3 : Int) ≠ 2 by decide, if_false]
    rw [wrp (n := s.States * (s.Ops + 1)) (by omega) (by omega), wrp (by omega) (by omega)]
theorem wide_b {s : Numbering_Size} (h : numbering_Check s = 0) (k : Int) : 0 ≤ wide s k ∧ wide s k ≤ 64 ∧ 0 ≤ tall s k ∧ tall s k ≤ 65 ∧ 0 ≤ base s k ∧ base s k ≤ 4160 := by
  obtain ⟨h0, h1, h2, h3⟩ := check0 h
  have hm := mulb h0 h1 h0 h1
  unfold wide tall base
  split
  · omega
  · split <;> omega
theorem v24 (s : Numbering_Size) (n : Numbering_Name) : VC24 s n (fun r => r = numbering_Var s n) := by
  unfold VC24
  intro r hr
  subst hr
  simp only [Bool.or_eq_true, decide_eq_true_eq, Bool.or_eq_false_iff, decide_eq_false_iff_not, bne_iff_ne, bne_eq_false_iff_eq]
  refine ⟨fun h => ?_, fun h => ?_⟩
  · unfold numbering_Var; rw [if_neg]; intro hh; rcases h with (h | h) | h
    · exact h hh.1
    · omega
    · omega
  · intro r hr
    subst hr
    obtain ⟨⟨hc, hk0⟩, hk1⟩ := h
    rw [block_eq hc]
    have hb := wide_b hc n.Kind
    refine ⟨fun h => ?_, fun h => ?_⟩
    · unfold numbering_Var; rw [if_neg]; intro hh; simp only at h; omega
    · simp only at h ⊢
      have hm := mulb (a := n.A) (b := wide s n.Kind) (A := 65) (B := 64) (by omega) (by omega) (by omega) (by omega)
      unfold numbering_Var
      rw [if_pos ⟨hc, by omega, by omega, by omega, by omega, by omega, by omega⟩]
      rw [wrp (n := n.A * _) (by omega) (by omega), wrp (n := _ + n.A * _) (by omega) (by omega), wrp (n := _ + n.B) (by omega) (by omega), wrp (by omega) (by omega)]
theorem gi_ext {α : Type} [Inhabited α] {a b : List α} (hl : a.length = b.length) (h : ∀ j : Int, 0 ≤ j → j < a.length → gi a j = gi b j) : a = b := by
  apply List.ext_getElem hl
  intro i h1 h2
  have := h i (by omega) (by omega)
  rwa [gi_nat _ _ h1, gi_nat _ _ h2] at this
theorem v34 (a b : List Int) : VC34 a b (fun r => r = ref01_SameInts a b) := by
  unfold VC34
  intro ha hb
  simp only [sm] at ha hb
  refine ⟨fun h => ?_, fun h => ?_⟩
  · have : a ≠ b := by rintro rfl; simp at h
    simp [ref01_SameInts, this]
  · have hl : a.length = b.length := by simp at h; omega
    refine ⟨fun i => 0 ≤ i ∧ i ≤ a.length ∧ ∀ j : Int, 0 ≤ j → j < i → gi a j = gi b j, fun i => (a.length - i).toNat, ⟨by omega, by omega, fun j h0 h1 => by omega⟩, ?_⟩
    rintro i ⟨h0, h1, h2⟩
    simp only [decide_eq_true_eq, decide_eq_false_iff_not, bne_iff_ne, bne_eq_false_iff_eq]
    refine ⟨fun hi => ⟨by omega, by omega, fun hne => ?_, fun he => ?_⟩, fun hi => ?_⟩
    · have : a ≠ b := by rintro rfl; exact hne rfl
      simp [ref01_SameInts, this]
    · rw [wrp (by omega) (by omega)]
      refine ⟨⟨by omega, by omega, fun j j0 j1 => ?_⟩, by omega⟩
      by_cases hj : j < i
      · exact h2 j j0 hj
      · rw [show j = i by omega]; exact he
    · have : a = b := gi_ext hl (fun j j0 j1 => h2 j j0 (by omega))
      simp [VC34_J1, ref01_SameInts, this]
theorem v35 (a b : List Bool) : VC35 a b (fun r => r = ref03_SameBools a b) := by
  unfold VC35
  intro ha hb
  simp only [sm] at ha hb
  refine ⟨fun h => ?_, fun h => ?_⟩
  · have : a ≠ b := by rintro rfl; simp at h
    simp [ref03_SameBools, this]
  · have hl : a.length = b.length := by simp at h; omega
    refine ⟨fun i => 0 ≤ i ∧ i ≤ a.length ∧ ∀ j : Int, 0 ≤ j → j < i → gi a j = gi b j, fun i => (a.length - i).toNat, ⟨by omega, by omega, fun j h0 h1 => by omega⟩, ?_⟩
    rintro i ⟨h0, h1, h2⟩
    simp only [decide_eq_true_eq, decide_eq_false_iff_not, bne_iff_ne, bne_eq_false_iff_eq]
    refine ⟨fun hi => ⟨by omega, by omega, fun hne => ?_, fun he => ?_⟩, fun hi => ?_⟩
    · have : a ≠ b := by rintro rfl; exact hne rfl
      simp [ref03_SameBools, this]
    · rw [wrp (by omega) (by omega)]
      refine ⟨⟨by omega, by omega, fun j j0 j1 => ?_⟩, by omega⟩
      by_cases hj : j < i
      · exact h2 j j0 hj
      · rw [show j = i by omega]; exact he
    · have : a = b := gi_ext hl (fun j j0 j1 => h2 j j0 (by omega))
      simp [VC35_J1, ref03_SameBools, this]
theorem v31 (a b : List (List Int)) : VC31 a b (fun r => r = ref04_SameRows a b) := by
  unfold VC31
  intro ha hb
  simp only [sm] at ha hb
  refine ⟨fun h => ?_, fun h => ?_⟩
  · have : a ≠ b := by rintro rfl; simp at h
    simp [ref04_SameRows, this]
  · have hl : a.length = b.length := by simp at h; omega
    refine ⟨fun i => 0 ≤ i ∧ i ≤ a.length ∧ ∀ j : Int, 0 ≤ j → j < i → gi a j = gi b j, fun i => (a.length - i).toNat, ⟨by omega, by omega, fun j h0 h1 => by omega⟩, ?_⟩
    rintro i ⟨h0, h1, h2⟩
    simp only [decide_eq_true_eq, decide_eq_false_iff_not]
    refine ⟨fun hi => ⟨by omega, fun _ => ⟨by omega, fun _ => ?_⟩⟩, fun hi => ?_⟩
    · intro r hr
      subst hr
      refine ⟨fun hne => ?_, fun he => ?_⟩
      · have : a ≠ b := by rintro rfl; simp [ref01_SameInts] at hne
        simp [ref04_SameRows, this]
      · have he : gi a i = gi b i := by simpa [ref01_SameInts] using he
        rw [wrp (by omega) (by omega)]
        refine ⟨⟨by omega, by omega, fun j j0 j1 => ?_⟩, by omega⟩
        by_cases hj : j < i
        · exact h2 j j0 hj
        · rw [show j = i by omega]; exact he
    · have : a = b := gi_ext hl (fun j j0 j1 => h2 j j0 (by omega))
      simp [VC31_J1, ref04_SameRows, this]
theorem v79 (l : Int) : VC79 l (fun r => r = ref01_Split l) := by
  unfold VC79
  simp only [Bool.and_eq_true, decide_eq_true_eq, Bool.and_eq_false_iff, decide_eq_false_iff_not]
  refine ⟨fun h => ?_, fun h => ⟨fun h2 => ?_, fun h2 => ?_⟩⟩
  · unfold ref01_Split; rw [if_pos (by omega)]
  · unfold ref01_Split; rw [if_neg (by omega), if_pos (by omega), wrp (by omega) (by omega)]
  · unfold ref01_Split; rw [if_neg (by omega), if_neg (by omega)]
theorem split_b (l : Int) : 0 ≤ (ref01_Split l).1 ∧ (ref01_Split l).1 ≤ 100000 := by
  unfold ref01_Split; split
  · simp only; omega
  · split <;> simp only <;> omega
theorem most_len : ∀ l : List Int, (most l).length ≤ l.length * l.length
  | [] => Nat.le_refl _
  | x :: r => by
    have := most_len r
    simp only [most, List.length_append, List.length_map, List.length_cons, Nat.add_mul, Nat.mul_add]
    omega
theorem drop_gi {α : Type} [Inhabited α] {l : List α} {i : Nat} (h : i < l.length) : l.drop i = gi l (i : Int) :: l.drop (i + 1) := by
  rw [gi_nat _ _ h, List.drop_eq_getElem_cons h]
theorem any_gi {α : Type} [Inhabited α] {l : List α} {f : α → Bool} (h : ∀ j : Int, 0 ≤ j → j < l.length → f (gi l j) = false) : l.any f = false := by
  rw [List.any_eq_false]
  intro x hx
  obtain ⟨i, hi, rfl⟩ := List.getElem_of_mem hx
  have := h i (by omega) (by omega)
  rw [gi_nat _ _ hi] at this
  simp [this]
theorem any_at {α : Type} [Inhabited α] {l : List α} {f : α → Bool} {i : Int} (h0 : 0 ≤ i) (h1 : i < l.length) (h : f (gi l i) = true) : l.any f = true := by
  rw [List.any_eq_true]
  refine ⟨gi l i, ?_, h⟩
  rw [gi_cast h0 h1]; exact List.getElem_mem _
theorem v62 (c : List Int) (m : List Bool) : VC62 c m (fun r => r = ref02_Holds c m) := by
  unfold VC62
  intro hc hm
  simp only [sm] at hc hm
  refine ⟨fun i => 0 ≤ i ∧ i ≤ c.length ∧ ∀ j : Int, 0 ≤ j → j < i → litOf m (gi c j) = false, fun i => (c.length - i).toNat, ⟨by omega, by omega, fun j h0 h1 => by omega⟩, ?_⟩
  rintro i ⟨h0, h1, h2⟩
  simp only [decide_eq_true_eq, decide_eq_false_iff_not]
  refine ⟨fun hi => ⟨by omega, ?_⟩, fun hi => ?_⟩
  · intro r hr
    subst hr
    have hb := split_b (gi c i)
    have next : litOf m (gi c i) = false → VC62_J2 (fun i => 0 ≤ i ∧ i ≤ c.length ∧ ∀ j : Int, 0 ≤ j → j < i → litOf m (gi c j) = false) (fun i => (c.length - i).toNat) i := by
      intro hf
      unfold VC62_J2
      rw [wrp (by omega) (by omega)]
      refine ⟨⟨by omega, by omega, fun j j0 j1 => ?_⟩, by dsimp only; omega⟩
      by_cases hj : j < i
      · exact h2 j j0 hj
      · rw [show j = i by omega]; exact hf
    refine ⟨fun hz => next ?_, fun hz => ⟨fun hle => ⟨?_, ?_⟩, fun hle => ?_⟩⟩
    · have : (ref01_Split (gi c i)).1 = 0 := by simpa using hz
      simp [litOf, this]
    · have : (ref01_Split (gi c i)).1 ≠ 0 := by simpa using hz
      rw [wrp (by omega) (by omega)]; omega
    · have hz : (ref01_Split (gi c i)).1 ≠ 0 := by simpa using hz
      rw [wrp (by omega) (by omega)]
      unfold VC62_J3
      have e : litOf m (gi c i) = (gi m ((ref01_Split (gi c i)).1 - 1) == (ref01_Split (gi c i)).2) := by
        simp [litOf, hz, hle]
      rw [← e]
      refine ⟨fun ht => ?_, next⟩
      exact (any_at h0 hi ht).symm
    · have hz : (ref01_Split (gi c i)).1 ≠ 0 := by simpa using hz
      unfold VC62_J3
      have e : litOf m (gi c i) = (false == (ref01_Split (gi c i)).2) := by
        simp [litOf, hz, hle]
      rw [← e]
      refine ⟨fun ht => ?_, next⟩
      exact (any_at h0 hi ht).symm
  · unfold VC62_J1
    exact (any_gi (fun j j0 j1 => h2 j j0 (by omega))).symm
theorem find_at {α : Type} [Inhabited α] {l : List α} {f : α → Bool} {i : Int} (h0 : 0 ≤ i) (h1 : i < l.length) (h : f (gi l i) = true) (h2 : ∀ j : Int, 0 ≤ j → j < i → f (gi l j) = false) : l.findIdx? f = some i.toNat := by
  rw [List.findIdx?_eq_some_iff_getElem]
  refine ⟨by omega, ?_, fun j hj => ?_⟩
  · rw [gi_cast h0 h1] at h; exact h
  · have := h2 j (by omega) (by omega)
    rw [gi_nat _ _ (by omega)] at this
    simp [this]
theorem find_no {α : Type} [Inhabited α] {l : List α} {f : α → Bool} (h2 : ∀ j : Int, 0 ≤ j → j < l.length → f (gi l j) = false) : l.findIdx? f = none := by
  rw [List.findIdx?_eq_none_iff]
  intro x hx
  obtain ⟨i, hi, rfl⟩ := List.getElem_of_mem hx
  have := h2 i (by omega) (by omega)
  rwa [gi_nat _ _ hi] at this
theorem v36 (f : Api_Formula) (m : List Bool) : VC36 f m (fun r => r = ref04_First f m) := by
  unfold VC36
  intro hc hm
  simp only [sm] at hc hm
  refine ⟨fun i => 0 ≤ i ∧ i ≤ f.Clauses.length ∧ ∀ j : Int, 0 ≤ j → j < i → (!ref02_Holds (gi f.Clauses j) m) = false, fun i => (f.Clauses.length - i).toNat, ⟨by omega, by omega, fun j h0 h1 => by omega⟩, ?_⟩
  rintro i ⟨h0, h1, h2⟩
  simp only [decide_eq_true_eq, decide_eq_false_iff_not]
  refine ⟨fun hi => ⟨by omega, fun _ => ?_⟩, fun hi => ?_⟩
  · intro r hr
    subst hr
    refine ⟨fun ht => ?_, fun hf => ?_⟩
    · unfold ref04_First
      rw [find_at (f := fun c => !ref02_Holds c m) h0 hi ht h2]
      simp only; omega
    · rw [wrp (by omega) (by omega)]
      refine ⟨⟨by omega, by omega, fun j j0 j1 => ?_⟩, by omega⟩
      by_cases hj : j < i
      · exact h2 j j0 hj
      · rw [show j = i by omega]; exact hf
  · unfold VC36_J1 ref04_First
    rw [find_no (f := fun c => !ref02_Holds c m) (fun j j0 j1 => h2 j j0 (by omega))]
theorem most_le {l : List Int} (h : preMost l) : (most l).length ≤ 1000000000000 := by
  have h1 := most_len l
  unfold preMost at h
  have h2 : l.length * l.length ≤ 1000000 * 1000000 := Nat.mul_le_mul h h
  omega
theorem v50 (l : List Int) (h : preMost l) : VC50 l (fun r => r = ref32_Most l) := by
  unfold VC50
  intro _
  have hb := most_le h
  have hl : l.length ≤ 1000000 := h
  refine ⟨fun out i => ∃ x : Nat, i = x ∧ x ≤ l.length ∧ out ++ most (l.drop x) = most l, fun _ i => (l.length - i).toNat, ⟨0, rfl, by omega, by simp⟩, ?_⟩
  rintro out _ ⟨x, rfl, hx, ho⟩
  simp only [decide_eq_true_eq, decide_eq_false_iff_not]
  refine ⟨fun hi => ?_, fun hi => ?_⟩
  · have hi : x < l.length := by omega
    rw [drop_gi hi, most] at ho
    rw [wrp (by omega) (by omega)]
    refine ⟨fun out k => ∃ y : Nat, k = y ∧ x + 1 ≤ y ∧ y ≤ l.length ∧ out ++ ((l.drop y).map (fun z => [negw (gi l x), negw z]) ++ most (l.drop (x + 1))) = most l, fun _ k => (l.length - k).toNat, ⟨x + 1, by simp, by omega, by omega, by simpa using ho⟩, ?_⟩
    rintro out2 _ ⟨y, rfl, hy0, hy, ho2⟩
    refine ⟨fun hk => ?_, fun hk => ?_⟩
    · have hk : y < l.length := by omega
      have hlen : out2.length + 1 ≤ (most l).length := by
        rw [← ho2, drop_gi hk]; simp only [List.length_append, List.length_map, List.length_cons]; omega
      rw [drop_gi hk, List.map_cons] at ho2
      refine ⟨by omega, by omega, by simp; omega, ?_⟩
      rw [wrp (n := (y : Int) + 1) (by omega) (by omega)]
      refine ⟨⟨y + 1, by simp, by omega, by omega, ?_⟩, by dsimp only; omega⟩
      rw [← ho2]
      simp [negw]
    · have : y = l.length := by omega
      subst this
      unfold VC50_J2
      rw [wrp (by omega) (by omega)]
      refine ⟨⟨x + 1, by simp, by omega, ?_⟩, by dsimp only; omega⟩
      simpa using ho2
  · have : x = l.length := by omega
    subst this
    unfold VC50_J1
    simpa [most, ref32_Most] using ho
theorem v49 (l : List Int) (h : preMost l) : VC49 l (fun r => r = places_Most l) := by
  unfold VC49
  intro _
  have hb := most_le h
  have hl : l.length ≤ 1000000 := h
  refine ⟨fun out i => ∃ x : Nat, i = x ∧ x ≤ l.length ∧ out ++ most (l.drop x) = most l, fun _ i => (l.length - i).toNat, ⟨0, rfl, by omega, by simp⟩, ?_⟩
  rintro out _ ⟨x, rfl, hx, ho⟩
  simp only [decide_eq_true_eq, decide_eq_false_iff_not]
  refine ⟨fun hi => ?_, fun hi => ?_⟩
  · have hi : x < l.length := by omega
    rw [drop_gi hi, most] at ho
    rw [wrp (n := (x : Int) + 1) (by omega) (by omega)]
    have e : ((x : Int) + 1).toNat = x + 1 := by omega
    rw [e]
    refine ⟨by omega, by omega, fun out k => ∃ y : Nat, k = y ∧ y ≤ (l.drop (x + 1)).length ∧ out ++ (((l.drop (x + 1)).drop y).map (fun z => [negw (gi l x), negw z]) ++ most (l.drop (x + 1))) = most l, fun _ k => ((l.drop (x + 1)).length - k).toNat, ⟨0, rfl, by omega, by simpa using ho⟩, ?_⟩
    rintro out2 _ ⟨y, rfl, hy, ho2⟩
    have hdl : (l.drop (x + 1)).length = l.length - (x + 1) := by simp
    refine ⟨fun hk => ?_, fun hk => ?_⟩
    · have hk : y < (l.drop (x + 1)).length := by omega
      have hlen : out2.length + 1 ≤ (most l).length := by
        rw [← ho2, drop_gi hk]; simp only [List.length_append, List.length_map, List.length_cons]; omega
      rw [drop_gi hk, List.map_cons] at ho2
      refine ⟨by omega, by simp; omega, ?_⟩
      rw [wrp (n := (y : Int) + 1) (by omega) (by omega)]
      refine ⟨⟨y + 1, by simp, by omega, ?_⟩, by dsimp only; omega⟩
      rw [← ho2]
      simp [negw]
    · have : y = (l.drop (x + 1)).length := by omega
      subst this
      unfold VC49_J2
      rw [wrp (by omega) (by omega)]
      refine ⟨⟨x + 1, by simp, by omega, ?_⟩, by dsimp only; omega⟩
      rw [List.drop_length] at ho2
      simpa using ho2
  · have : x = l.length := by omega
    subst this
    unfold VC49_J1
    simpa [most, places_Most] using ho
theorem lit_pos {m : List Bool} {l : Int} (h0 : 1 ≤ l) (h1 : l ≤ m.length) (h2 : l ≤ 100000) : litOf m l = gi m (l - 1) := by
  have e : ref01_Split l = (l, true) := by unfold ref01_Split; rw [if_pos (by omega)]
  unfold litOf
  rw [e]
  simp [show ¬ l = 0 by omega, h1]
theorem lit_neg {m : List Bool} {l : Int} (h0 : 1 ≤ l) (h1 : l ≤ m.length) (h2 : l ≤ 100000) : litOf m (negw l) = !gi m (l - 1) := by
  have e : ref01_Split (negw l) = (l, false) := by
    unfold negw
    rw [wrp (by omega) (by omega)]
    unfold ref01_Split; rw [if_neg (by omega), if_pos (by omega)]
    congr 1; omega
  unfold litOf
  rw [e]
  simp [show ¬ l = 0 by omega, h1]
def okl (m : List Bool) (l : Int) : Prop := 1 ≤ l ∧ l ≤ m.length ∧ l ≤ 100000
theorem holds_any {m : List Bool} {L : List Int} (hL : ∀ x ∈ L, okl m x) : ref02_Holds L m = L.any (fun x => gi m (x - 1)) := by
  unfold ref02_Holds
  induction L with
  | nil => rfl
  | cons x r ih =>
    obtain ⟨a, b, c⟩ := hL x (by simp)
    rw [List.any_cons, List.any_cons, lit_pos a b c, ih (fun y hy => hL y (by simp [hy]))]
theorem holds_most {m : List Bool} : ∀ {L : List Int}, (∀ x ∈ L, okl m x) → ((most L).all (fun c => ref02_Holds c m) = true ↔ (L.filter (fun x => gi m (x - 1))).length ≤ 1)
  | [], _ => by simp [most]
  | x :: r, hL => by
    obtain ⟨a, b, c⟩ := hL x (by simp)
    have ih := holds_most (L := r) (fun y hy => hL y (by simp [hy]))
    have e : (r.map (fun y => [negw x, negw y])).all (fun c => ref02_Holds c m) = true ↔ (gi m (x - 1) = true → r.filter (fun x => gi m (x - 1)) = []) := by
      rw [List.all_map, List.all_eq_true]
      constructor
      · intro h hx
        rw [List.filter_eq_nil_iff]
        intro y hy
        obtain ⟨a', b', c'⟩ := hL y (by simp [hy])
        have := h y hy
        simp only [Function.comp, ref02_Holds, List.any_cons, List.any_nil, lit_neg a b c, lit_neg a' b' c', hx] at this
        simpa using this
      · intro h y hy
        obtain ⟨a', b', c'⟩ := hL y (by simp [hy])
        simp only [Function.comp, ref02_Holds, List.any_cons, List.any_nil, lit_neg a b c, lit_neg a' b' c']
        cases hx : gi m (x - 1) with
        | false => rfl
        | true =>
          have := (List.filter_eq_nil_iff.mp (h hx)) y hy
          simpa using this
    rw [most, List.all_append, Bool.and_eq_true, e, ih, List.filter_cons]
    cases hx : gi m (x - 1) with
    | false => simp
    | true =>
      simp only [true_implies, if_true, List.length_cons]
      constructor
      · rintro ⟨h, _⟩; rw [h]; simp
      · intro h
        have h : (r.filter (fun x => gi m (x - 1))).length = 0 := by omega
        rw [List.length_eq_zero_iff] at h
        rw [h]; simp
theorem first_iff (n : Int) (c : List (List Int)) (m : List Bool) : ref04_First ⟨n, c⟩ m < 0 ↔ c.all (fun c => ref02_Holds c m) = true := by
  unfold ref04_First
  dsimp only
  cases h : c.findIdx? (fun c => !ref02_Holds c m) with
  | none =>
    rw [List.findIdx?_eq_none_iff] at h
    simp only [List.all_eq_true]
    constructor
    · intro _ x hx; simpa using h x hx
    · intro _; decide
  | some i =>
    dsimp only
    rw [List.findIdx?_eq_some_iff_getElem] at h
    obtain ⟨hi, hf, _⟩ := h
    constructor
    · intro h; omega
    · intro h
      rw [List.all_eq_true] at h
      have := h c[i] (List.getElem_mem _)
      simp [this] at hf
theorem any_filter (L : List Int) (f : Int → Bool) : L.any f = true ↔ 1 ≤ (L.filter f).length := by
  rw [List.any_eq_true]
  constructor
  · rintro ⟨x, hx, hf⟩
    exact List.length_pos_of_mem (List.mem_filter.mpr ⟨hx, hf⟩)
  · intro h
    obtain ⟨x, hx⟩ := List.exists_mem_of_length_pos h
    rw [List.mem_filter] at hx
    exact ⟨x, hx.1, hx.2⟩
theorem most_two : ∀ l : List Int, 2 * ((most l).length : Int) = l.length * (l.length - 1)
  | [] => by simp [most]
  | x :: r => by
    have := most_two r
    simp only [most, List.length_append, List.length_map, List.length_cons]
    have e : ((r.length + 1 : Nat) : Int) * (((r.length + 1 : Nat) : Int) - 1) = r.length * (r.length - 1) + 2 * r.length := by
      simp only [Int.natCast_add, Int.natCast_one]
      rw [show (r.length : Int) + 1 - 1 = r.length by omega, Int.add_mul, Int.mul_sub]
      omega
    rw [e, ← this]
    omega
theorem vars_eq {o s : Int} (hc : ref31_Check o s = 0) : IntKind.i64.wrap ((IntKind.i64.wrap ((IntKind.i64.wrap (o * o)) + o)) + (IntKind.i64.wrap ((IntKind.i64.wrap (o + 1)) * s))) = numbering_Vars ⟨o, s⟩ := by
  obtain ⟨h0, h1, h2, h3⟩ := check0 hc
  have hm := mulb h0 h1 h0 h1
  have hn := mulb (a := o + 1) (b := s) (by omega) (by omega : o + 1 ≤ 65) (by omega) h3
  have hc' : numbering_Check ⟨o, s⟩ = 0 := hc
  unfold numbering_Vars
  rw [if_pos hc']
  dsimp only
  rw [wrp (n := o * o) (by omega) (by omega), wrp (n := o + 1) (by omega) (by omega), wrp (n := (o + 1) * s) (by omega) (by omega), wrp (n := o * o + o) (by omega) (by omega), wrp (by omega) (by omega), Int.mul_comm s]
theorem set_mid {α : Type} (A r : List α) (b v : α) {n : Nat} (h : n = A.length) : (A ++ b :: r).set n v = A ++ v :: r := by
  subst h
  rw [List.set_append_right _ _ (Nat.le_refl _)]
  simp
theorem idx_at {l : List Int} {v i : Int} (h0 : 0 ≤ i) (h1 : i < l.length) (h : gi l i = v) (h2 : ∀ j : Int, 0 ≤ j → j < i → gi l j ≠ v) : idx l v = i := by
  unfold idx
  rw [find_at (f := fun x => x == v) h0 h1 (by simpa using h) (fun j j0 j1 => by simpa using h2 j j0 j1)]
  dsimp only; omega
theorem idx_no {l : List Int} {v : Int} (h2 : ∀ j : Int, 0 ≤ j → j < l.length → gi l j ≠ v) : idx l v = -1 := by
  unfold idx
  rw [find_no (f := fun x => x == v) (fun j j0 j1 => by simpa using h2 j j0 j1)]
theorem idx_mem {l : List Int} {v : Int} : 0 ≤ idx l v ↔ v ∈ l := by
  unfold idx
  cases h : l.findIdx? (fun x => x == v) with
  | none =>
    rw [List.findIdx?_eq_none_iff] at h
    dsimp only
    constructor
    · intro h; omega
    · intro hm; have := h v hm; simp at this
  | some i =>
    rw [List.findIdx?_eq_some_iff_getElem] at h
    obtain ⟨hi, he, _⟩ := h
    have he : l[i] = v := by simpa using he
    dsimp only
    constructor
    · intro _; rw [← he]; exact List.getElem_mem _
    · intro _; omega
theorem idx_spec {l : List Int} {v : Int} (h : 0 ≤ idx l v) : idx l v < l.length ∧ gi l (idx l v) = v := by
  unfold idx at h ⊢
  cases hf : l.findIdx? (fun x => x == v) with
  | none => rw [hf] at h; simp at h
  | some i =>
    rw [List.findIdx?_eq_some_iff_getElem] at hf
    obtain ⟨hi, he, _⟩ := hf
    dsimp only
    refine ⟨by omega, ?_⟩
    rw [gi_nat _ _ hi]
    simpa using he
theorem v64 (l : List Int) (v : Int) : VC64 l v (fun r => r = slices_Index_int_int l v) := by
  unfold VC64
  intro hl
  simp only [sm] at hl
  refine ⟨fun i => 0 ≤ i ∧ i ≤ l.length ∧ ∀ j : Int, 0 ≤ j → j < i → gi l j ≠ v, fun i => (l.length - i).toNat, ⟨by omega, by omega, fun j h0 h1 => by omega⟩, ?_⟩
  rintro i ⟨h0, h1, h2⟩
  simp only [decide_eq_true_eq, decide_eq_false_iff_not]
  refine ⟨fun hi => ⟨⟨by omega, by omega⟩, fun he => ?_, fun he => ?_⟩, fun hi => ?_⟩
  · exact (idx_at h0 hi (by rw [beq_iff_eq] at he; exact he.symm) h2).symm
  · rw [wrp (by omega) (by omega)]
    refine ⟨⟨by omega, by omega, fun j j0 j1 => ?_⟩, by omega⟩
    by_cases hj : j < i
    · exact h2 j j0 hj
    · rw [show j = i by omega]; intro h; rw [h] at he; simp at he
  · exact (idx_no (fun j j0 j1 => h2 j j0 (by omega))).symm
theorem v68 (l : List Int) (v : Int) : VC68 l v (fun r => r = slices_Contains_int_int l v) := by
  intro _ r hr
  subst hr
  unfold slices_Contains_int_int slices_Index_int_int
  rw [Bool.eq_iff_iff, decide_eq_true_eq, decide_eq_true_eq]
  exact idx_mem
theorem place_eq {s : Numbering_Size} {a k : Int} (hc : numbering_Check s = 0) (ha : 0 ≤ a) (ha1 : a < s.Ops) (hk : 0 ≤ k) (hk1 : k < s.Ops) :
    place_at s a k = a * s.Ops + k + 1 ∧ 1 ≤ place_at s a k ∧ place_at s a k ≤ s.Ops * s.Ops ∧ s.Ops * s.Ops ≤ numbering_Vars s ∧ numbering_Vars s ≤ 10000 := by
  obtain ⟨h0, h1, h2, h3⟩ := check0 hc
  have hm := mulb h0 h1 h0 h1
  have hn := mulb (a := a) (b := s.Ops) ha (by omega : a ≤ 64) h0 h1
  have hz := mulb (a := s.Ops) (b := s.States) h0 h1 (by omega) h3
  have hk2 : (a + 1) * s.Ops ≤ s.Ops * s.Ops := Int.mul_le_mul_of_nonneg_right (by omega) h0
  rw [Int.add_mul, Int.one_mul] at hk2
  have hv : numbering_Vars s = s.Ops * s.Ops + s.Ops + (s.Ops * s.States + s.States) := by
    unfold numbering_Vars; rw [if_pos hc, Int.mul_add, Int.mul_comm s.States, Int.mul_one]
  have e : place_at s a k = a * s.Ops + k + 1 := by
    unfold place_at numbering_Var
    rw [if_pos]
    · simp [base, wide]
    · refine ⟨hc, by simp, by simp, ha, ?_, hk, ?_⟩
      · simpa [tall] using ha1
      · simpa [wide] using hk1
  rw [e, hv]
  omega
theorem at_place {o s a k : Int} (hc : ref31_Check o s = 0) (ha : 0 ≤ a) (ha1 : a < o) (hk : 0 ≤ k) (hk1 : k < o) : ref31_At o s a k = place_at ⟨o, s⟩ a k := by
  obtain ⟨h0, h1, h2, h3⟩ := check0 hc
  obtain ⟨e, _⟩ := place_eq (s := ⟨o, s⟩) hc ha ha1 hk hk1
  have hn := mulb (a := a) (b := o) ha (by omega : a ≤ 64) h0 h1
  rw [e]
  unfold ref31_At
  dsimp only
  rw [wrp (n := a * o) (by omega) (by omega), wrp (n := a * o + k) (by omega) (by omega), wrp (by omega) (by omega)]
theorem v71 (o s a b : Int) : VC71 o s a b (fun r => r = ref31_At o s a b) := rfl
theorem divmod {a k n : Nat} (hk : k < n) : (a * n + k) / n = a ∧ (a * n + k) % n = k := by
  refine ⟨?_, ?_⟩
  · rw [Nat.mul_comm, Nat.mul_add_div (by omega), Nat.div_eq_of_lt hk]; omega
  · rw [Nat.mul_comm, Nat.mul_add_mod, Nat.mod_eq_of_lt hk]
theorem bits_set {s : Numbering_Size} {order : List Int} {t : Nat} {a : Int} (hc : numbering_Check s = 0) (ht : (t : Int) < s.Ops) (ha : gi order t = a) (h0 : 0 ≤ a) (h1 : a < s.Ops) :
    (placeBits s order t).set (place_at s a t - 1).toNat true = placeBits s order (t + 1) := by
  obtain ⟨e, e1, e2, e3, e4⟩ := place_eq hc h0 h1 (k := (t : Int)) (by omega) ht
  obtain ⟨c0, c1, c2, c3⟩ := check0 hc
  obtain ⟨n, hn⟩ := Int.eq_ofNat_of_zero_le c0
  obtain ⟨x, hx⟩ := Int.eq_ofNat_of_zero_le h0
  have hnn : s.Ops.toNat = n := by omega
  have epos : (place_at s a t - 1).toNat = x * n + t := by
    rw [e, hn, hx]
    have : ((x * n : Nat) : Int) = (x : Int) * n := Int.natCast_mul x n
    omega
  rw [epos]
  unfold placeBits
  apply List.ext_getElem (by simp)
  intro i hi hj
  simp only [List.getElem_set, List.getElem_map, List.getElem_range]
  have hm : x * n + t < n * n := by
    have : (x + 1) * n ≤ n * n := Nat.mul_le_mul_right n (by omega)
    rw [Nat.add_mul, Nat.one_mul] at this
    omega
  obtain ⟨d1, d2⟩ := divmod (a := x) (k := t) (n := n) (by omega)
  unfold bitOf
  rw [hnn]
  split
  · rename_i hi2
    subst hi2
    rw [d1, d2, ha, hx]
    simp [hm]
  · rename_i hi2
    rw [Bool.eq_iff_iff]
    simp only [Bool.and_eq_true, decide_eq_true_eq, beq_iff_eq]
    constructor
    · rintro ⟨⟨h2, h3⟩, h4⟩; exact ⟨⟨h2, by omega⟩, h4⟩
    · rintro ⟨⟨h2, h3⟩, h4⟩
      refine ⟨⟨h2, ?_⟩, h4⟩
      by_cases h5 : i % n = t
      · exfalso
        rw [h5, ha, hx] at h4
        apply hi2
        have := Nat.div_add_mod i n
        have h6 : i / n = x := by omega
        rw [h6, h5, Nat.mul_comm] at this
        omega
      · omega
theorem v45 (s : Numbering_Size) (order : List Int) : VC45 s order (fun r => r = places_Truths s order) := by
  unfold VC45
  intro _ r hr
  subst hr
  simp only [Bool.or_eq_true, decide_eq_true_eq, Bool.or_eq_false_iff, decide_eq_false_iff_not, bne_iff_ne, bne_eq_false_iff_eq]
  refine ⟨fun h => ?_, fun h => ?_⟩
  · unfold places_Truths
    rw [if_neg]
    rintro ⟨hc, hl, _⟩
    exact h.elim (fun h => h hc) (fun h => h hl)
  · obtain ⟨hc, hl⟩ := h
    obtain ⟨c0, c1, c2, c3⟩ := check0 hc
    rintro _ rfl
    have hv : 0 ≤ numbering_Vars s ∧ numbering_Vars s ≤ 10000 ∧ s.Ops * s.Ops ≤ numbering_Vars s := by
      have hm := mulb c0 c1 c0 c1
      have hz := mulb (a := s.Ops) (b := s.States) c0 c1 (by omega) c3
      have hv : numbering_Vars s = s.Ops * s.Ops + s.Ops + (s.Ops * s.States + s.States) := by
        unfold numbering_Vars; rw [if_pos hc, Int.mul_add, Int.mul_comm s.States, Int.mul_one]
      rw [hv]; omega
    have hlen : ∀ t, ((placeBits s order t).length : Int) = numbering_Vars s := fun t => by unfold placeBits; simp; omega
    refine ⟨by omega, fun m x => ∃ t : Nat, x = t ∧ t ≤ order.length ∧ m = placeBits s order t ∧ (∀ a ∈ order.take t, 0 ≤ a ∧ a < s.Ops) ∧ (order.take t).Nodup, fun _ x => (order.length - x).toNat, ⟨0, rfl, by omega, ?_, by simp, by simp⟩, ?_⟩
    · unfold placeBits bitOf
      apply List.ext_getElem (by simp)
      intro i hi hj
      simp
    rintro _ _ ⟨t, rfl, ht, rfl, hin, hnd⟩
    refine ⟨fun hx => ⟨⟨by omega, hx⟩, fun hb => ?_, fun hb => ⟨⟨by omega, by omega⟩, ?_⟩⟩, fun hx => ?_⟩
    · unfold VC45_J2
      refine ⟨fun _ => ?_, (fun h => by cases h)⟩
      unfold places_Truths
      rw [if_neg]
      rintro ⟨_, _, hall, _⟩
      have := hall (gi order t) (by rw [gi_nat _ _ (by omega)]; exact List.getElem_mem _)
      omega
    · have hx : t < order.length := by omega
      rintro _ rfl
      rw [show ((t : Int)).toNat = t from rfl]
      have etk : order.take (t + 1) = order.take t ++ [gi order t] := by rw [List.take_succ_eq_append_getElem hx, gi_nat _ _ hx]
      unfold VC45_J2 slices_Contains_int_int
      rw [decide_eq_true_eq, decide_eq_false_iff_not]
      refine ⟨fun hm => ?_, fun hm => ?_⟩
      · unfold places_Truths
        rw [if_neg]
        rintro ⟨_, _, _, hd⟩
        have hd2 : (order.take (t + 1)).Nodup := hd.sublist (List.take_sublist _ _)
        rw [etk, List.nodup_append] at hd2
        exact hd2.2.2 _ hm _ (List.mem_singleton_self _) rfl
      · rintro _ rfl
        obtain ⟨e, e1, e2, e3, e4⟩ := place_eq hc (a := gi order t) (by omega) (by omega) (k := (t : Int)) (by omega) (by omega)
        have ew : numbering_Var s ⟨1, gi order t, t⟩ = place_at s (gi order t) t := rfl
        rw [ew, wrp (n := place_at s (gi order t) t - 1) (by omega) (by omega), wrp (by omega) (by omega)]
        have hl2 := hlen t
        refine ⟨⟨by omega, by omega⟩, ⟨t + 1, by simp, by omega, bits_set hc (by omega) rfl (by omega) (by omega), ?_, ?_⟩, by dsimp only; omega⟩
        · intro a hma
          rw [etk, List.mem_append, List.mem_singleton] at hma
          rcases hma with hma | hma
          · exact hin a hma
          · rw [hma]; omega
        · rw [etk, List.nodup_append]
          refine ⟨hnd, by simp, ?_⟩
          intro a hma b hmb he
          rw [List.mem_singleton] at hmb
          rw [he, hmb] at hma
          exact hm hma
    · have : t = order.length := by omega
      subst this
      rw [List.take_length] at hin hnd
      unfold VC45_J1 places_Truths
      rw [if_pos ⟨hc, hl, hin, hnd⟩]
theorem pigeon : ∀ (n : Nat) (l : List Int), l.length < n → ∃ x : Int, 0 ≤ x ∧ x < n ∧ x ∉ l
  | 0, l, h => by omega
  | n + 1, l, h => by
    by_cases hm : (n : Int) ∈ l
    · have hl := List.length_erase_of_mem hm
      have hpos := List.length_pos_of_mem hm
      obtain ⟨x, x0, x1, hx⟩ := pigeon n (l.erase (n : Int)) (by omega)
      refine ⟨x, x0, by omega, fun hxm => hx ?_⟩
      exact (List.mem_erase_of_ne (by omega)).mpr hxm
    · exact ⟨n, by omega, by omega, hm⟩
theorem nodup_le : ∀ (n : Nat) (l : List Int), l.Nodup → (∀ x ∈ l, 0 ≤ x ∧ x < n) → l.length ≤ n
  | 0, [], _, _ => by simp
  | 0, x :: l, _, h => by have := h x (by simp); omega
  | n + 1, l, hd, h => by
    have h1 := nodup_le n (l.erase (n : Int)) (hd.erase _) (fun x hx => by
      rw [hd.mem_erase_iff] at hx
      have := h x hx.2
      have hne := hx.1
      omega)
    by_cases hm : (n : Int) ∈ l
    · have hl := List.length_erase_of_mem hm
      omega
    · rw [List.erase_of_not_mem hm] at h1
      omega
theorem nodup_full {n : Nat} {l : List Int} (hd : l.Nodup) (h : ∀ x ∈ l, 0 ≤ x ∧ x < n) (hl : l.length = n) {i : Int} (h0 : 0 ≤ i) (h1 : i < n) : i ∈ l := by
  apply Classical.byContradiction
  intro hi
  have := nodup_le n (i :: l) (List.nodup_cons.mpr ⟨hi, hd⟩) (fun x hx => by
    rcases List.mem_cons.mp hx with rfl | hx
    · exact ⟨h0, h1⟩
    · exact h x hx)
  rw [List.length_cons] at this
  omega
theorem two_le {α : Type} {l : List α} {p q : α} (hp : p ∈ l) (hq : q ∈ l) (hne : p ≠ q) : 2 ≤ l.length := by
  match l, hp, hq with
  | [x], hp, hq =>
    rw [List.mem_singleton] at hp hq
    exact absurd (hp.trans hq.symm) hne
  | x :: y :: r, _, _ => simp
theorem idx_neg {l : List Int} {v : Int} (h : v ∉ l) : idx l v = -1 := by
  unfold idx
  cases hf : l.findIdx? (fun x => x == v) with
  | none => rfl
  | some i =>
    exfalso
    rw [List.findIdx?_eq_some_iff_getElem] at hf
    obtain ⟨hi, he, _⟩ := hf
    have he : l[i] = v := by simpa using he
    exact h (he ▸ List.getElem_mem _)
theorem bits_len {s : Numbering_Size} (h : 0 ≤ numbering_Vars s) (order : List Int) (t : Nat) : ((placeBits s order t).length : Int) = numbering_Vars s := by
  unfold placeBits; simp; omega
theorem bits_gi {s : Numbering_Size} {order : List Int} (hc : numbering_Check s = 0) (hl : (order.length : Int) = s.Ops) {x k : Int} (hx0 : 0 ≤ x) (hx1 : x < s.Ops) (hk0 : 0 ≤ k) (hk1 : k < s.Ops) :
    gi (placeBits s order order.length) (place_at s x k - 1) = (gi order k == x) := by
  obtain ⟨e, e1, e2, e3, e4⟩ := place_eq hc hx0 hx1 hk0 hk1
  obtain ⟨c0, c1, c2, c3⟩ := check0 hc
  obtain ⟨n, hn⟩ := Int.eq_ofNat_of_zero_le c0
  obtain ⟨a, ha⟩ := Int.eq_ofNat_of_zero_le hx0
  obtain ⟨t, ht⟩ := Int.eq_ofNat_of_zero_le hk0
  have hnn : s.Ops.toNat = n := by omega
  have epos : place_at s x k - 1 = ((a * n + t : Nat) : Int) := by
    rw [e, hn, ha, ht]
    have : ((a * n : Nat) : Int) = (a : Int) * n := Int.natCast_mul a n
    omega
  have hm : a * n + t < n * n := by
    have : (a + 1) * n ≤ n * n := Nat.mul_le_mul_right n (by omega)
    rw [Nat.add_mul, Nat.one_mul] at this
    omega
  have hlen := bits_len (s := s) (by omega) order order.length
  have hnn2 : ((n * n : Nat) : Int) = s.Ops * s.Ops := by rw [Int.natCast_mul, hn]
  rw [epos, gi_nat _ _ (by omega)]
  obtain ⟨d1, d2⟩ := divmod (a := a) (k := t) (n := n) (by omega)
  simp only [placeBits, List.getElem_map, List.getElem_range]
  unfold bitOf
  rw [hnn, d1, d2, ht, ha]
  have : decide (a * n + t < n * n ∧ t < order.length) = true := by rw [decide_eq_true_eq]; omega
  rw [this, Bool.true_and]
theorem idx_nodup {l : List Int} (hd : l.Nodup) {i v : Int} (h0 : 0 ≤ i) (h1 : i < l.length) (h : gi l i = v) : idx l v = i := by
  refine idx_at h0 h1 h (fun j j0 j1 he => ?_)
  rw [← h, gi_cast j0 (by omega), gi_cast h0 h1] at he
  have := (List.getElem_inj hd).mp he
  omega
end Go.Proofs.Ytlpcjbjlgeaapaa
