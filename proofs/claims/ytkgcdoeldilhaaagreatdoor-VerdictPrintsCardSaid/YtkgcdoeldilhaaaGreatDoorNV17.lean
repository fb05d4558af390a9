/- Proofs as text: equality, the hints' parts, few. -/
import Derived.Test.YtkgcdoeldilhaaaGreatDoorNV16
set_option linter.all false
namespace Go.Proofs.YtkgcdoeldilhaaaGreatDoor
open Go Go.Sv Go.Pu
theorem step_ext (x y : Api_Step) : x = y ↔ x.Kind = y.Kind ∧ x.Id = y.Id ∧ x.Lits = y.Lits ∧ x.Hints = y.Hints := by
  obtain ⟨a, b, c, d⟩ := x
  obtain ⟨a', b', c', d'⟩ := y
  simp
theorem v66 (x y : Api_Step) : VC66 x y (fun r => r = proof_Same_1 x y) := by
  intro _ _ _ _
  unfold proof_Same_1
  refine ⟨fun h => ?_, fun h => ?_⟩
  · have h : x.Kind = y.Kind ∧ x.Id = y.Id := by simpa using h
    rintro _ rfl
    unfold slices_Equal_int_int
    refine ⟨fun h2 => ?_, fun h2 => ?_⟩
    · have h2 := of_decide_eq_true h2
      rintro _ rfl
      show decide (x.Hints = y.Hints) = decide (x = y)
      rw [Bool.eq_iff_iff, decide_eq_true_eq, decide_eq_true_eq, step_ext]
      simp [h, h2]
    · have h2 := of_decide_eq_false h2
      exact (decide_eq_false (fun e => h2 (by rw [e]))).symm
  · have h : ¬ (x.Kind = y.Kind ∧ x.Id = y.Id) := by simpa using h
    exact (decide_eq_false (fun e => h (by rw [e]; exact ⟨rfl, rfl⟩))).symm
theorem take_neS {a b : List Api_Step} {i : Int} (h : gi a i ≠ gi b i) : a ≠ b := fun e => h (by rw [e])
theorem v65_66 (a b : List Api_Step) : VC65_66 a b (fun r => r = slices_EqualFunc_api_Step_api_Step_api_Step_api_Step_proof_Same_1 a b) := by
  intro hsa hsb
  simp only [sm] at hsa hsb
  unfold VC65_66_J1 slices_EqualFunc_api_Step_api_Step_api_Step_api_Step_proof_Same_1
  refine ⟨fun h => ?_, fun h => ?_⟩
  · have h : (a.length : Int) ≠ b.length := by simpa using h
    show false = decide (a = b)
    rw [eq_comm, decide_eq_false_iff_not]; intro e; rw [e] at h; exact h rfl
  · have h : (a.length : Int) = b.length := by simpa using h
    refine ⟨fun i => 0 ≤ i ∧ i ≤ a.length ∧ ∀ j : Int, 0 ≤ j → j < i → gi a j = gi b j, fun i => (a.length - i).toNat, ⟨by omega, by omega, fun j _ _ => by omega⟩, ?_⟩
    rintro i ⟨h0, h1, h2⟩
    refine ⟨fun hi => ?_, fun hi => ?_⟩
    · have hi := of_decide_eq_true hi
      rw [wrp (n := i + 1) (by omega) (by omega)]
      refine ⟨⟨h0, hi⟩, fun _ _ => ⟨⟨h0, by omega⟩, fun _ _ => ?_⟩⟩
      rintro _ rfl
      refine ⟨fun he => ?_, fun he => ⟨⟨by omega, by omega, fun j j0 j1 => ?_⟩, by first | omega | (dsimp only; omega)⟩⟩
      · show false = decide (a = b)
        rw [eq_comm, decide_eq_false_iff_not]
        exact take_neS (i := i) (by simpa [proof_Same_1] using he)
      · by_cases hj : j = i
        · subst hj; simpa [proof_Same_1] using he
        · exact h2 j j0 (by omega)
    · have hi := of_decide_eq_false hi
      show true = decide (a = b)
      rw [eq_comm, decide_eq_true_eq]
      exact gi_ext (by omega) (fun j j0 j1 => h2 j j0 (by omega))
theorem v42 (a b : List Api_Step) : VC42 a b (fun r => r = proof_Same a b) := by
  intro _ _
  rintro _ rfl
  rfl
theorem v30 (a b : List Api_Step) : VC30 a b (fun r => r = ref10_Same a b) := by
  intro hsa hsb
  simp only [sm] at hsa hsb
  unfold VC30_J1 VC30_J2 ref10_Same
  refine ⟨fun h => ?_, fun h => ?_⟩
  · have h : (a.length : Int) ≠ b.length := by simpa using h
    show false = decide (a = b)
    rw [eq_comm, decide_eq_false_iff_not]; intro e; rw [e] at h; exact h rfl
  · have h : (a.length : Int) = b.length := by simpa using h
    refine ⟨fun i => 0 ≤ i ∧ i ≤ a.length ∧ ∀ j : Int, 0 ≤ j → j < i → gi a j = gi b j, fun i => (a.length - i).toNat, ⟨by omega, by omega, fun j _ _ => by omega⟩, ?_⟩
    rintro i ⟨h0, h1, h2⟩
    refine ⟨fun hi => ?_, fun hi => ?_⟩
    · have hi := of_decide_eq_true hi
      rw [wrp (n := i + 1) (by omega) (by omega)]
      have bad : gi a i ≠ gi b i → false = decide (a = b) := fun hn => by
        rw [eq_comm, decide_eq_false_iff_not]; exact take_neS hn
      have ok : gi a i = gi b i → (0 ≤ i + 1 ∧ i + 1 ≤ (a.length : Int) ∧ ∀ j : Int, 0 ≤ j → j < i + 1 → gi a j = gi b j) ∧ (a.length - (i + 1)).toNat < (a.length - i).toNat := fun he => by
        refine ⟨⟨by omega, by omega, fun j j0 j1 => ?_⟩, by omega⟩
        by_cases hj : j = i
        · subst hj; exact he
        · exact h2 j j0 (by omega)
      refine ⟨⟨h0, hi⟩, ⟨h0, by omega⟩, fun k => ⟨fun _ => bad fun e => ?_, fun x => by simp at x⟩, fun k => ⟨⟨h0, hi⟩, ⟨h0, by omega⟩, fun d => ⟨fun _ => bad fun e => ?_, fun x => by simp at x⟩, fun d => ⟨⟨h0, hi⟩, fun _ => ⟨⟨h0, by omega⟩, fun _ => ?_⟩⟩⟩⟩
      · rw [e] at k; simp at k
      · rw [e] at d; simp at d
      · rintro _ rfl
        have k : (gi a i).Kind = (gi b i).Kind := by simpa using k
        have d : (gi a i).Id = (gi b i).Id := by simpa using d
        unfold ref01_SameInts
        refine ⟨fun l => ⟨fun _ => bad fun e => ?_, fun x => by simp at x⟩, fun l => ⟨⟨h0, hi⟩, ⟨h0, by omega⟩, fun _ _ => ?_⟩⟩
        · rw [e] at l; simp at l
        · have l : (gi a i).Lits = (gi b i).Lits := by simpa using l
          rintro _ rfl
          refine ⟨fun g => bad fun e => ?_, fun g => ok ?_⟩
          · rw [e] at g; simp at g
          · have g : (gi a i).Hints = (gi b i).Hints := by simpa using g
            exact (step_ext _ _).2 ⟨k, d, l, g⟩
    · have hi := of_decide_eq_false hi
      show true = decide (a = b)
      rw [eq_comm, decide_eq_true_eq]
      exact gi_ext (by omega) (fun j j0 j1 => h2 j j0 (by omega))
theorem v31 (l : List Api_Step) : VC31 l (fun r => r = law10_Few l) := by
  intro hsm
  simp only [sm] at hsm
  unfold VC31_J1 VC31_J2 law10_Few
  refine ⟨fun h => ?_, fun h => ?_⟩
  · have h := of_decide_eq_true h
    have : decide (l.length ≤ 200) = false := decide_eq_false (by omega)
    rw [this]; rfl
  · have h := of_decide_eq_false h
    have : decide (l.length ≤ 200) = true := decide_eq_true (by omega)
    rw [this, Bool.true_and]
    refine ⟨fun i => 0 ≤ i ∧ i ≤ l.length ∧ (l.take i.toNat).all (fun s => decide (s.Lits.length ≤ 60) && decide (s.Hints.length ≤ 200)) = true, fun i => (l.length - i).toNat, ⟨by omega, by omega, by simp⟩, ?_⟩
    rintro i ⟨h0, h1, hz⟩
    refine ⟨fun hi => ?_, fun hi => ?_⟩
    · have hi := of_decide_eq_true hi
      rw [wrp (n := i + 1) (by omega) (by omega)]
      have bad : (decide ((gi l i).Lits.length ≤ 60) && decide ((gi l i).Hints.length ≤ 200)) = false → false = l.all (fun s => decide (s.Lits.length ≤ 60) && decide (s.Hints.length ≤ 200)) := fun hn => by
        rw [eq_comm, List.all_eq_false]
        exact ⟨_, mem_gi h0 hi, by rw [hn]; simp⟩
      refine ⟨⟨h0, hi⟩, fun _ => ⟨fun a => ⟨fun _ => bad ?_, fun x => by simp at x⟩, fun a => ⟨⟨h0, hi⟩, fun _ => ⟨fun b => bad ?_, fun b => ⟨⟨by omega, by omega, ?_⟩, by first | omega | (dsimp only; omega)⟩⟩⟩⟩⟩
      · have a := of_decide_eq_true a
        rw [decide_eq_false (show ¬ (gi l i).Lits.length ≤ 60 by omega), Bool.false_and]
      · have b := of_decide_eq_true b
        rw [decide_eq_false (show ¬ (gi l i).Hints.length ≤ 200 by omega), Bool.and_false]
      · have a := of_decide_eq_false a
        have b := of_decide_eq_false b
        rw [take_gi h0 hi, List.all_append, hz]
        simp only [List.all_cons, List.all_nil]
        rw [decide_eq_true (show (gi l i).Lits.length ≤ 60 by omega), decide_eq_true (show (gi l i).Hints.length ≤ 200 by omega)]; rfl
    · have hi := of_decide_eq_false hi
      rw [show i.toNat = l.length by omega, List.take_length] at hz
      exact hz.symm
end Go.Proofs.YtkgcdoeldilhaaaGreatDoor
