/- Plain lemmas about the specification functions. Conditions: in each lemma. -/
import Derived.Test.YtlpcjbjlgeaapaaSV1
set_option linter.all false
namespace Go.Proofs.Ytlpcjbjlgeaapaa
open Go Go.Sv Go.Pu

theorem v31 (a b : List (List Int)) : VC31 a b (fun r => r = ref04_SameRows a b) := by
  unfold VC31
  intro ha hb
  simp only [sm] at ha hb
  refine ⟨fun h => ?_, fun h => ?_⟩
  · have : a ≠ b := by rintro rfl; simp at h
    simp [ref04_SameRows, this]
  · have hl : a.length = b.length := by simp at h; omega
    refine ⟨fun i => 0 ≤ i ∧ i ≤ a.length ∧ ∀ j : Int, 0 ≤ j → j < i → gi a j = gi b j, fun i => (a.length - i).toNat, ⟨by omega, by omega, fun j h0 h1 => by omega⟩, ?_⟩
    rintro i ⟨h0, h1, h2⟩
    simp only [decide_eq_true_eq, decide_eq_false_iff_not]
    refine ⟨fun hi => ⟨by omega, fun _ => ⟨by omega, fun _ => ?_⟩⟩, fun hi => ?_⟩
    · intro r hr
      subst hr
      refine ⟨fun hne => ?_, fun he => ?_⟩
      · have : a ≠ b := by rintro rfl; simp [ref01_SameInts] at hne
        simp [ref04_SameRows, this]
      · have he : gi a i = gi b i := by simpa [ref01_SameInts] using he
        rw [wrp (by omega) (by omega)]
        refine ⟨⟨by omega, by omega, fun j j0 j1 => ?_⟩, by omega⟩
        by_cases hj : j < i
        · exact h2 j j0 hj
        · rw [show j = i by omega]; exact he
    · have : a = b := gi_ext hl (fun j j0 j1 => h2 j j0 (by omega))
      simp [VC31_J1, ref04_SameRows, this]

theorem v79 (l : Int) : VC79 l (fun r => r = ref01_Split l) := by
  unfold VC79
  simp only [Bool.and_eq_true, decide_eq_true_eq, Bool.and_eq_false_iff, decide_eq_false_iff_not]
  refine ⟨fun h => ?_, fun h => ⟨fun h2 => ?_, fun h2 => ?_⟩⟩
  · unfold ref01_Split; rw [if_pos (by omega)]
  · unfold ref01_Split; rw [if_neg (by omega), if_pos (by omega), wrp (by omega) (by omega)]
  · unfold ref01_Split; rw [if_neg (by omega), if_neg (by omega)]

theorem split_b (l : Int) : 0 ≤ (ref01_Split l).1 ∧ (ref01_Split l).1 ≤ 100000 := by
  unfold ref01_Split; split
  · simp only; omega
  · split <;> simp only <;> omega

theorem most_len : ∀ l : List Int, (most l).length ≤ l.length * l.length
  | [] => Nat.le_refl _
  | x :: r => by
    have := most_len r
    simp only [most, List.length_append, List.length_map, List.length_cons, Nat.add_mul, Nat.mul_add]
    omega

theorem drop_gi {α : Type} [Inhabited α] {l : List α} {i : Nat} (h : i < l.length) : l.drop i = gi l (i : Int) :: l.drop (i + 1) := by
  rw [gi_nat _ _ h, List.drop_eq_getElem_cons h]
end Go.Proofs.Ytlpcjbjlgeaapaa
