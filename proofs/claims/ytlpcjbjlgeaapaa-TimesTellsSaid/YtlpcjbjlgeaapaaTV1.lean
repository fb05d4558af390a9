/- Plain lemmas about the specification functions. Conditions: in each lemma. -/
import Derived.Test.YtlpcjbjlgeaapaaTVC
set_option linter.all false
namespace Go.Proofs.Ytlpcjbjlgeaapaa
open Go Go.Sv Go.Pu

theorem v21 (s : Numbering_Size) : VC21 s (fun r => r = numbering_Check s) := by
  simp only [VC21, numbering_Check, ref31_Check, Bool.or_eq_true, decide_eq_true_eq, Bool.or_eq_false_iff, decide_eq_false_iff_not]
  constructor <;> intro h
  · rw [if_pos (by omega)]
  · rw [if_neg (by omega)]
theorem v22 (ops states : Int) : VC22 ops states (fun r => r = ref31_Check ops states) := by
  simp only [VC22, ref31_Check, Bool.or_eq_true, decide_eq_true_eq, Bool.or_eq_false_iff, decide_eq_false_iff_not]
  constructor <;> intro h
  · rw [if_pos (by omega)]
  · rw [if_neg (by omega)]
theorem v56 (s : Numbering_Size) (k : Int) : VC56 s k (fun r => r = numbering_Size_block s k) := by
  simp only [VC56, numbering_Size_block, beq_iff_eq, beq_eq_false_iff_ne]
  refine ⟨fun h => by rw [if_pos h], fun h => ⟨fun h2 => by rw [if_neg h, if_pos h2], fun h2 => by rw [if_neg h, if_neg h2]⟩⟩

theorem check0 {o s : Int} (h : ref31_Check o s = 0) : 0 ≤ o ∧ o ≤ 64 ∧ 1 ≤ s ∧ s ≤ 32 := by
  unfold ref31_Check at h; split at h <;> omega
theorem check2 (o s : Int) : ref31_Check o s = 0 ∨ ref31_Check o s = 2 := by
  unfold ref31_Check; split <;> simp

theorem block_eq {s : Numbering_Size} (h : numbering_Check s = 0) (k : Int) : numbering_Size_block s k = (base s k, wide s k, tall s k) := by
  obtain ⟨h0, h1, h2, h3⟩ := check0 h
  have hm := mulb h0 h1 h0 h1
  unfold numbering_Size_block base wide tall
  split
  · rfl
  · split
    · rw [wrp (by omega) (by omega)]
    · rw [wrp (n := s.Ops * s.Ops) (by omega) (by omega), wrp (by omega) (by omega), wrp (by omega) (by omega)]

theorem v23 (s : Numbering_Size) : VC23 s (fun r => r = numbering_Vars s) := by
  unfold VC23
  intro r hr
  subst hr
  refine ⟨fun h => ?_, fun h => ?_⟩
  · have h : numbering_Check s ≠ 0 := by simpa using h
    simp [numbering_Vars, h]
  · have h : numbering_Check s = 0 := by simpa using h
    intro r hr
    subst hr
    obtain ⟨h0, h1, h2, h3⟩ := check0 h
    have hm := mulb h0 h1 h0 h1
    have hn := mulb (a := s.States) (b := s.Ops + 1) (by omega) h3 (by omega) (by omega : s.Ops + 1 ≤ 65)
    rw [block_eq h]
    simp only [base, wide, tall, numbering_Vars, h, if_true]
    simp only [show (3 : Int) ≠ 1 by decide, show (3 : Int) ≠ 2 by decide, if_false]
    rw [wrp (n := s.States * (s.Ops + 1)) (by omega) (by omega), wrp (by omega) (by omega)]

theorem wide_b {s : Numbering_Size} (h : numbering_Check s = 0) (k : Int) : 0 ≤ wide s k ∧ wide s k ≤ 64 ∧ 0 ≤ tall s k ∧ tall s k ≤ 65 ∧ 0 ≤ base s k ∧ base s k ≤ 4160 := by
  obtain ⟨h0, h1, h2, h3⟩ := check0 h
  have hm := mulb h0 h1 h0 h1
  unfold wide tall base
  split
  · omega
  · split <;> omega

theorem v24 (s : Numbering_Size) (n : Numbering_Name) : VC24 s n (fun r => r = numbering_Var s n) := by
  unfold VC24
  intro r hr
  subst hr
  simp only [Bool.or_eq_true, decide_eq_true_eq, Bool.or_eq_false_iff, decide_eq_false_iff_not, bne_iff_ne, bne_eq_false_iff_eq]
  refine ⟨fun h => ?_, fun h => ?_⟩
  · unfold numbering_Var; rw [if_neg]; intro hh; rcases h with (h | h) | h
    · exact h hh.1
    · omega
    · omega
  · intro r hr
    subst hr
    obtain ⟨⟨hc, hk0⟩, hk1⟩ := h
    rw [block_eq hc]
    have hb := wide_b hc n.Kind
    refine ⟨fun h => ?_, fun h => ?_⟩
    · unfold numbering_Var; rw [if_neg]; intro hh; simp only at h; omega
    · simp only at h ⊢
      have hm := mulb (a := n.A) (b := wide s n.Kind) (A := 65) (B := 64) (by omega) (by omega) (by omega) (by omega)
      unfold numbering_Var
      rw [if_pos ⟨hc, by omega, by omega, by omega, by omega, by omega, by omega⟩]
      rw [wrp (n := n.A * _) (by omega) (by omega), wrp (n := _ + n.A * _) (by omega) (by omega), wrp (n := _ + n.B) (by omega) (by omega), wrp (by omega) (by omega)]


theorem gi_ext {α : Type} [Inhabited α] {a b : List α} (hl : a.length = b.length) (h : ∀ j : Int, 0 ≤ j → j < a.length → gi a j = gi b j) : a = b := by
  apply List.ext_getElem hl
  intro i h1 h2
  have := h i (by omega) (by omega)
  rwa [gi_nat _ _ h1, gi_nat _ _ h2] at this

theorem v34 (a b : List Int) : VC34 a b (fun r => r = ref01_SameInts a b) := by
  unfold VC34
  intro ha hb
  simp only [sm] at ha hb
  refine ⟨fun h => ?_, fun h => ?_⟩
  · have : a ≠ b := by rintro rfl; simp at h
    simp [ref01_SameInts, this]
  · have hl : a.length = b.length := by simp at h; omega
    refine ⟨fun i => 0 ≤ i ∧ i ≤ a.length ∧ ∀ j : Int, 0 ≤ j → j < i → gi a j = gi b j, fun i => (a.length - i).toNat, ⟨by omega, by omega, fun j h0 h1 => by omega⟩, ?_⟩
    rintro i ⟨h0, h1, h2⟩
    simp only [decide_eq_true_eq, decide_eq_false_iff_not, bne_iff_ne, bne_eq_false_iff_eq]
    refine ⟨fun hi => ⟨by omega, by omega, fun hne => ?_, fun he => ?_⟩, fun hi => ?_⟩
    · have : a ≠ b := by rintro rfl; exact hne rfl
      simp [ref01_SameInts, this]
    · rw [wrp (by omega) (by omega)]
      refine ⟨⟨by omega, by omega, fun j j0 j1 => ?_⟩, by omega⟩
      by_cases hj : j < i
      · exact h2 j j0 hj
      · rw [show j = i by omega]; exact he
    · have : a = b := gi_ext hl (fun j j0 j1 => h2 j j0 (by omega))
      simp [VC34_J1, ref01_SameInts, this]



theorem v31 (a b : List (List Int)) : VC31 a b (fun r => r = ref04_SameRows a b) := by
  unfold VC31
  intro ha hb
  simp only [sm] at ha hb
  refine ⟨fun h => ?_, fun h => ?_⟩
  · have : a ≠ b := by rintro rfl; simp at h
    simp [ref04_SameRows, this]
  · have hl : a.length = b.length := by simp at h; omega
    refine ⟨fun i => 0 ≤ i ∧ i ≤ a.length ∧ ∀ j : Int, 0 ≤ j → j < i → gi a j = gi b j, fun i => (a.length - i).toNat, ⟨by omega, by omega, fun j h0 h1 => by omega⟩, ?_⟩
    rintro i ⟨h0, h1, h2⟩
    simp only [decide_eq_true_eq, decide_eq_false_iff_not]
    refine ⟨fun hi => ⟨by omega, fun _ => ⟨by omega, fun _ => ?_⟩⟩, fun hi => ?_⟩
    · intro r hr
      subst hr
      refine ⟨fun hne => ?_, fun he => ?_⟩
      · have : a ≠ b := by rintro rfl; simp [ref01_SameInts] at hne
        simp [ref04_SameRows, this]
      · have he : gi a i = gi b i := by simpa [ref01_SameInts] using he
        rw [wrp (by omega) (by omega)]
        refine ⟨⟨by omega, by omega, fun j j0 j1 => ?_⟩, by omega⟩
        by_cases hj : j < i
        · exact h2 j j0 hj
        · rw [show j = i by omega]; exact he
    · have : a = b := gi_ext hl (fun j j0 j1 => h2 j j0 (by omega))
      simp [VC31_J1, ref04_SameRows, this]

theorem v79 (l : Int) : VC79 l (fun r => r = ref01_Split l) := by
  unfold VC79
  simp only [Bool.and_eq_true, decide_eq_true_eq, Bool.and_eq_false_iff, decide_eq_false_iff_not]
  refine ⟨fun h => ?_, fun h => ⟨fun h2 => ?_, fun h2 => ?_⟩⟩
  · unfold ref01_Split; rw [if_pos (by omega)]
  · unfold ref01_Split; rw [if_neg (by omega), if_pos (by omega), wrp (by omega) (by omega)]
  · unfold ref01_Split; rw [if_neg (by omega), if_neg (by omega)]

theorem split_b (l : Int) : 0 ≤ (ref01_Split l).1 ∧ (ref01_Split l).1 ≤ 100000 := by
  unfold ref01_Split; split
  · simp only; omega
  · split <;> simp only <;> omega

theorem drop_gi {α : Type} [Inhabited α] {l : List α} {i : Nat} (h : i < l.length) : l.drop i = gi l (i : Int) :: l.drop (i + 1) := by
  rw [gi_nat _ _ h, List.drop_eq_getElem_cons h]


theorem any_gi {α : Type} [Inhabited α] {l : List α} {f : α → Bool} (h : ∀ j : Int, 0 ≤ j → j < l.length → f (gi l j) = false) : l.any f = false := by
  rw [List.any_eq_false]
  intro x hx
  obtain ⟨i, hi, rfl⟩ := List.getElem_of_mem hx
  have := h i (by omega) (by omega)
  rw [gi_nat _ _ hi] at this
  simp [this]
theorem any_at {α : Type} [Inhabited α] {l : List α} {f : α → Bool} {i : Int} (h0 : 0 ≤ i) (h1 : i < l.length) (h : f (gi l i) = true) : l.any f = true := by
  rw [List.any_eq_true]
  refine ⟨gi l i, ?_, h⟩
  rw [gi_cast h0 h1]; exact List.getElem_mem _

theorem v62 (c : List Int) (m : List Bool) : VC62 c m (fun r => r = ref02_Holds c m) := by
  unfold VC62
  intro hc hm
  simp only [sm] at hc hm
  refine ⟨fun i => 0 ≤ i ∧ i ≤ c.length ∧ ∀ j : Int, 0 ≤ j → j < i → litOf m (gi c j) = false, fun i => (c.length - i).toNat, ⟨by omega, by omega, fun j h0 h1 => by omega⟩, ?_⟩
  rintro i ⟨h0, h1, h2⟩
  simp only [decide_eq_true_eq, decide_eq_false_iff_not]
  refine ⟨fun hi => ⟨by omega, ?_⟩, fun hi => ?_⟩
  · intro r hr
    subst hr
    have hb := split_b (gi c i)
    have next : litOf m (gi c i) = false → VC62_J2 (fun i => 0 ≤ i ∧ i ≤ c.length ∧ ∀ j : Int, 0 ≤ j → j < i → litOf m (gi c j) = false) (fun i => (c.length - i).toNat) i := by
      intro hf
      unfold VC62_J2
      rw [wrp (by omega) (by omega)]
      refine ⟨⟨by omega, by omega, fun j j0 j1 => ?_⟩, by dsimp only; omega⟩
      by_cases hj : j < i
      · exact h2 j j0 hj
      · rw [show j = i by omega]; exact hf
    refine ⟨fun hz => next ?_, fun hz => ⟨fun hle => ⟨?_, ?_⟩, fun hle => ?_⟩⟩
    · have : (ref01_Split (gi c i)).1 = 0 := by simpa using hz
      simp [litOf, this]
    · have : (ref01_Split (gi c i)).1 ≠ 0 := by simpa using hz
      rw [wrp (by omega) (by omega)]; omega
    · have hz : (ref01_Split (gi c i)).1 ≠ 0 := by simpa using hz
      rw [wrp (by omega) (by omega)]
      unfold VC62_J3
      have e : litOf m (gi c i) = (gi m ((ref01_Split (gi c i)).1 - 1) == (ref01_Split (gi c i)).2) := by
        simp [litOf, hz, hle]
      rw [← e]
      refine ⟨fun ht => ?_, next⟩
      exact (any_at h0 hi ht).symm
    · have hz : (ref01_Split (gi c i)).1 ≠ 0 := by simpa using hz
      unfold VC62_J3
      have e : litOf m (gi c i) = (false == (ref01_Split (gi c i)).2) := by
        simp [litOf, hz, hle]
      rw [← e]
      refine ⟨fun ht => ?_, next⟩
      exact (any_at h0 hi ht).symm
  · unfold VC62_J1
    exact (any_gi (fun j j0 j1 => h2 j j0 (by omega))).symm

theorem find_at {α : Type} [Inhabited α] {l : List α} {f : α → Bool} {i : Int} (h0 : 0 ≤ i) (h1 : i < l.length) (h : f (gi l i) = true) (h2 : ∀ j : Int, 0 ≤ j → j < i → f (gi l j) = false) : l.findIdx? f = some i.toNat := by
  rw [List.findIdx?_eq_some_iff_getElem]
  refine ⟨by omega, ?_, fun j hj => ?_⟩
  · rw [gi_cast h0 h1] at h; exact h
  · have := h2 j (by omega) (by omega)
    rw [gi_nat _ _ (by omega)] at this
    simp [this]
theorem find_no {α : Type} [Inhabited α] {l : List α} {f : α → Bool} (h2 : ∀ j : Int, 0 ≤ j → j < l.length → f (gi l j) = false) : l.findIdx? f = none := by
  rw [List.findIdx?_eq_none_iff]
  intro x hx
  obtain ⟨i, hi, rfl⟩ := List.getElem_of_mem hx
  have := h2 i (by omega) (by omega)
  rwa [gi_nat _ _ hi] at this

theorem v36 (f : Api_Formula) (m : List Bool) : VC36 f m (fun r => r = ref04_First f m) := by
  unfold VC36
  intro hc hm
  simp only [sm] at hc hm
  refine ⟨fun i => 0 ≤ i ∧ i ≤ f.Clauses.length ∧ ∀ j : Int, 0 ≤ j → j < i → (!ref02_Holds (gi f.Clauses j) m) = false, fun i => (f.Clauses.length - i).toNat, ⟨by omega, by omega, fun j h0 h1 => by omega⟩, ?_⟩
  rintro i ⟨h0, h1, h2⟩
  simp only [decide_eq_true_eq, decide_eq_false_iff_not]
  refine ⟨fun hi => ⟨by omega, fun _ => ?_⟩, fun hi => ?_⟩
  · intro r hr
    subst hr
    refine ⟨fun ht => ?_, fun hf => ?_⟩
    · unfold ref04_First
      rw [find_at (f := fun c => !ref02_Holds c m) h0 hi ht h2]
      simp only; omega
    · rw [wrp (by omega) (by omega)]
      refine ⟨⟨by omega, by omega, fun j j0 j1 => ?_⟩, by omega⟩
      by_cases hj : j < i
      · exact h2 j j0 hj
      · rw [show j = i by omega]; exact hf
  · unfold VC36_J1 ref04_First
    rw [find_no (f := fun c => !ref02_Holds c m) (fun j j0 j1 => h2 j j0 (by omega))]


theorem lit_pos {m : List Bool} {l : Int} (h0 : 1 ≤ l) (h1 : l ≤ m.length) (h2 : l ≤ 100000) : litOf m l = gi m (l - 1) := by
  have e : ref01_Split l = (l, true) := by unfold ref01_Split; rw [if_pos (by omega)]
  unfold litOf
  rw [e]
  simp [show ¬ l = 0 by omega, h1]
theorem lit_neg {m : List Bool} {l : Int} (h0 : 1 ≤ l) (h1 : l ≤ m.length) (h2 : l ≤ 100000) : litOf m (negw l) = !gi m (l - 1) := by
  have e : ref01_Split (negw l) = (l, false) := by
    unfold negw
    rw [wrp (by omega) (by omega)]
    unfold ref01_Split; rw [if_neg (by omega), if_pos (by omega)]
    congr 1; omega
  unfold litOf
  rw [e]
  simp [show ¬ l = 0 by omega, h1]

def okl (m : List Bool) (l : Int) : Prop := 1 ≤ l ∧ l ≤ m.length ∧ l ≤ 100000
theorem holds_any {m : List Bool} {L : List Int} (hL : ∀ x ∈ L, okl m x) : ref02_Holds L m = L.any (fun x => gi m (x - 1)) := by
  unfold ref02_Holds
  induction L with
  | nil => rfl
  | cons x r ih =>
    obtain ⟨a, b, c⟩ := hL x (by simp)
    rw [List.any_cons, List.any_cons, lit_pos a b c, ih (fun y hy => hL y (by simp [hy]))]

theorem first_iff (n : Int) (c : List (List Int)) (m : List Bool) : ref04_First ⟨n, c⟩ m < 0 ↔ c.all (fun c => ref02_Holds c m) = true := by
  unfold ref04_First
  dsimp only
  cases h : c.findIdx? (fun c => !ref02_Holds c m) with
  | none =>
    rw [List.findIdx?_eq_none_iff] at h
    simp only [List.all_eq_true]
    constructor
    · intro _ x hx; simpa using h x hx
    · intro _; decide
  | some i =>
    dsimp only
    rw [List.findIdx?_eq_some_iff_getElem] at h
    obtain ⟨hi, hf, _⟩ := h
    constructor
    · intro h; omega
    · intro h
      rw [List.all_eq_true] at h
      have := h c[i] (List.getElem_mem _)
      simp [this] at hf

end Go.Proofs.Ytlpcjbjlgeaapaa
