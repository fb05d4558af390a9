/- Plain lemmas about the specification functions. Conditions: in each lemma. -/
import Derived.Test.YtlpcjbjlgeaapaaSV3
set_option linter.all false
namespace Go.Proofs.Ytlpcjbjlgeaapaa
open Go Go.Sv Go.Pu

theorem most_le {l : List Int} (h : preMost l) : (most l).length ≤ 1000000000000 := by
  have h1 := most_len l
  unfold preMost at h
  have h2 : l.length * l.length ≤ 1000000 * 1000000 := Nat.mul_le_mul h h
  omega

theorem v50 (l : List Int) (h : preMost l) : VC50 l (fun r => r = ref32_Most l) := by
  unfold VC50
  intro _
  have hb := most_le h
  have hl : l.length ≤ 1000000 := h
  refine ⟨fun out i => ∃ x : Nat, i = x ∧ x ≤ l.length ∧ out ++ most (l.drop x) = most l, fun _ i => (l.length - i).toNat, ⟨0, rfl, by omega, by simp⟩, ?_⟩
  rintro out _ ⟨x, rfl, hx, ho⟩
  simp only [decide_eq_true_eq, decide_eq_false_iff_not]
  refine ⟨fun hi => ?_, fun hi => ?_⟩
  · have hi : x < l.length := by omega
    rw [drop_gi hi, most] at ho
    rw [wrp (by omega) (by omega)]
    refine ⟨fun out k => ∃ y : Nat, k = y ∧ x + 1 ≤ y ∧ y ≤ l.length ∧ out ++ ((l.drop y).map (fun z => [negw (gi l x), negw z]) ++ most (l.drop (x + 1))) = most l, fun _ k => (l.length - k).toNat, ⟨x + 1, by simp, by omega, by omega, by simpa using ho⟩, ?_⟩
    rintro out2 _ ⟨y, rfl, hy0, hy, ho2⟩
    refine ⟨fun hk => ?_, fun hk => ?_⟩
    · have hk : y < l.length := by omega
      have hlen : out2.length + 1 ≤ (most l).length := by
        rw [← ho2, drop_gi hk]; simp only [List.length_append, List.length_map, List.length_cons]; omega
      rw [drop_gi hk, List.map_cons] at ho2
      refine ⟨by omega, by omega, by simp; omega, ?_⟩
      rw [wrp (n := (y : Int) + 1) (by omega) (by omega)]
      refine ⟨⟨y + 1, by simp, by omega, by omega, ?_⟩, by dsimp only; omega⟩
      rw [← ho2]
      simp [negw]
    · have : y = l.length := by omega
      subst this
      unfold VC50_J2
      rw [wrp (by omega) (by omega)]
      refine ⟨⟨x + 1, by simp, by omega, ?_⟩, by dsimp only; omega⟩
      simpa using ho2
  · have : x = l.length := by omega
    subst this
    unfold VC50_J1
    simpa [most, ref32_Most] using ho

theorem v49 (l : List Int) (h : preMost l) : VC49 l (fun r => r = places_Most l) := by
  unfold VC49
  intro _
  have hb := most_le h
  have hl : l.length ≤ 1000000 := h
  refine ⟨fun out i => ∃ x : Nat, i = x ∧ x ≤ l.length ∧ out ++ most (l.drop x) = most l, fun _ i => (l.length - i).toNat, ⟨0, rfl, by omega, by simp⟩, ?_⟩
  rintro out _ ⟨x, rfl, hx, ho⟩
  simp only [decide_eq_true_eq, decide_eq_false_iff_not]
  refine ⟨fun hi => ?_, fun hi => ?_⟩
  · have hi : x < l.length := by omega
    rw [drop_gi hi, most] at ho
    rw [wrp (n := (x : Int) + 1) (by omega) (by omega)]
    have e : ((x : Int) + 1).toNat = x + 1 := by omega
    rw [e]
    refine ⟨by omega, by omega, fun out k => ∃ y : Nat, k = y ∧ y ≤ (l.drop (x + 1)).length ∧ out ++ (((l.drop (x + 1)).drop y).map (fun z => [negw (gi l x), negw z]) ++ most (l.drop (x + 1))) = most l, fun _ k => ((l.drop (x + 1)).length - k).toNat, ⟨0, rfl, by omega, by simpa using ho⟩, ?_⟩
    rintro out2 _ ⟨y, rfl, hy, ho2⟩
    have hdl : (l.drop (x + 1)).length = l.length - (x + 1) := by simp
    refine ⟨fun hk => ?_, fun hk => ?_⟩
    · have hk : y < (l.drop (x + 1)).length := by omega
      have hlen : out2.length + 1 ≤ (most l).length := by
        rw [← ho2, drop_gi hk]; simp only [List.length_append, List.length_map, List.length_cons]; omega
      rw [drop_gi hk, List.map_cons] at ho2
      refine ⟨by omega, by simp; omega, ?_⟩
      rw [wrp (n := (y : Int) + 1) (by omega) (by omega)]
      refine ⟨⟨y + 1, by simp, by omega, ?_⟩, by dsimp only; omega⟩
      rw [← ho2]
      simp [negw]
    · have : y = (l.drop (x + 1)).length := by omega
      subst this
      unfold VC49_J2
      rw [wrp (by omega) (by omega)]
      refine ⟨⟨x + 1, by simp, by omega, ?_⟩, by dsimp only; omega⟩
      rw [List.drop_length] at ho2
      simpa using ho2
  · have : x = l.length := by omega
    subst this
    unfold VC49_J1
    simpa [most, places_Most] using ho
end Go.Proofs.Ytlpcjbjlgeaapaa
