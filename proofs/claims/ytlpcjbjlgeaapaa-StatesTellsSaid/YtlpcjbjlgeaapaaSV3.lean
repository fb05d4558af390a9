/- Plain lemmas about the specification functions. Conditions: in each lemma. -/
import Derived.Test.YtlpcjbjlgeaapaaSV2
set_option linter.all false
namespace Go.Proofs.Ytlpcjbjlgeaapaa
open Go Go.Sv Go.Pu

theorem any_gi {α : Type} [Inhabited α] {l : List α} {f : α → Bool} (h : ∀ j : Int, 0 ≤ j → j < l.length → f (gi l j) = false) : l.any f = false := by
  rw [List.any_eq_false]
  intro x hx
  obtain ⟨i, hi, rfl⟩ := List.getElem_of_mem hx
  have := h i (by omega) (by omega)
  rw [gi_nat _ _ hi] at this
  simp [this]
theorem any_at {α : Type} [Inhabited α] {l : List α} {f : α → Bool} {i : Int} (h0 : 0 ≤ i) (h1 : i < l.length) (h : f (gi l i) = true) : l.any f = true := by
  rw [List.any_eq_true]
  refine ⟨gi l i, ?_, h⟩
  rw [gi_cast h0 h1]; exact List.getElem_mem _

theorem v62 (c : List Int) (m : List Bool) : VC62 c m (fun r => r = ref02_Holds c m) := by
  unfold VC62
  intro hc hm
  simp only [sm] at hc hm
  refine ⟨fun i => 0 ≤ i ∧ i ≤ c.length ∧ ∀ j : Int, 0 ≤ j → j < i → litOf m (gi c j) = false, fun i => (c.length - i).toNat, ⟨by omega, by omega, fun j h0 h1 => by omega⟩, ?_⟩
  rintro i ⟨h0, h1, h2⟩
  simp only [decide_eq_true_eq, decide_eq_false_iff_not]
  refine ⟨fun hi => ⟨by omega, ?_⟩, fun hi => ?_⟩
  · intro r hr
    subst hr
    have hb := split_b (gi c i)
    have next : litOf m (gi c i) = false → VC62_J2 (fun i => 0 ≤ i ∧ i ≤ c.length ∧ ∀ j : Int, 0 ≤ j → j < i → litOf m (gi c j) = false) (fun i => (c.length - i).toNat) i := by
      intro hf
      unfold VC62_J2
      rw [wrp (by omega) (by omega)]
      refine ⟨⟨by omega, by omega, fun j j0 j1 => ?_⟩, by dsimp only; omega⟩
      by_cases hj : j < i
      · exact h2 j j0 hj
      · rw [show j = i by omega]; exact hf
    refine ⟨fun hz => next ?_, fun hz => ⟨fun hle => ⟨?_, ?_⟩, fun hle => ?_⟩⟩
    · have : (ref01_Split (gi c i)).1 = 0 := by simpa using hz
      simp [litOf, this]
    · have : (ref01_Split (gi c i)).1 ≠ 0 := by simpa using hz
      rw [wrp (by omega) (by omega)]; omega
    · have hz : (ref01_Split (gi c i)).1 ≠ 0 := by simpa using hz
      rw [wrp (by omega) (by omega)]
      unfold VC62_J3
      have e : litOf m (gi c i) = (gi m ((ref01_Split (gi c i)).1 - 1) == (ref01_Split (gi c i)).2) := by
        simp [litOf, hz, hle]
      rw [← e]
      refine ⟨fun ht => ?_, next⟩
      exact (any_at h0 hi ht).symm
    · have hz : (ref01_Split (gi c i)).1 ≠ 0 := by simpa using hz
      unfold VC62_J3
      have e : litOf m (gi c i) = (false == (ref01_Split (gi c i)).2) := by
        simp [litOf, hz, hle]
      rw [← e]
      refine ⟨fun ht => ?_, next⟩
      exact (any_at h0 hi ht).symm
  · unfold VC62_J1
    exact (any_gi (fun j j0 j1 => h2 j j0 (by omega))).symm

theorem find_at {α : Type} [Inhabited α] {l : List α} {f : α → Bool} {i : Int} (h0 : 0 ≤ i) (h1 : i < l.length) (h : f (gi l i) = true) (h2 : ∀ j : Int, 0 ≤ j → j < i → f (gi l j) = false) : l.findIdx? f = some i.toNat := by
  rw [List.findIdx?_eq_some_iff_getElem]
  refine ⟨by omega, ?_, fun j hj => ?_⟩
  · rw [gi_cast h0 h1] at h; exact h
  · have := h2 j (by omega) (by omega)
    rw [gi_nat _ _ (by omega)] at this
    simp [this]
theorem find_no {α : Type} [Inhabited α] {l : List α} {f : α → Bool} (h2 : ∀ j : Int, 0 ≤ j → j < l.length → f (gi l j) = false) : l.findIdx? f = none := by
  rw [List.findIdx?_eq_none_iff]
  intro x hx
  obtain ⟨i, hi, rfl⟩ := List.getElem_of_mem hx
  have := h2 i (by omega) (by omega)
  rwa [gi_nat _ _ hi] at this

theorem v36 (f : Api_Formula) (m : List Bool) : VC36 f m (fun r => r = ref04_First f m) := by
  unfold VC36
  intro hc hm
  simp only [sm] at hc hm
  refine ⟨fun i => 0 ≤ i ∧ i ≤ f.Clauses.length ∧ ∀ j : Int, 0 ≤ j → j < i → (!ref02_Holds (gi f.Clauses j) m) = false, fun i => (f.Clauses.length - i).toNat, ⟨by omega, by omega, fun j h0 h1 => by omega⟩, ?_⟩
  rintro i ⟨h0, h1, h2⟩
  simp only [decide_eq_true_eq, decide_eq_false_iff_not]
  refine ⟨fun hi => ⟨by omega, fun _ => ?_⟩, fun hi => ?_⟩
  · intro r hr
    subst hr
    refine ⟨fun ht => ?_, fun hf => ?_⟩
    · unfold ref04_First
      rw [find_at (f := fun c => !ref02_Holds c m) h0 hi ht h2]
      simp only; omega
    · rw [wrp (by omega) (by omega)]
      refine ⟨⟨by omega, by omega, fun j j0 j1 => ?_⟩, by omega⟩
      by_cases hj : j < i
      · exact h2 j j0 hj
      · rw [show j = i by omega]; exact hf
  · unfold VC36_J1 ref04_First
    rw [find_no (f := fun c => !ref02_Holds c m) (fun j j0 j1 => h2 j j0 (by omega))]
end Go.Proofs.Ytlpcjbjlgeaapaa
