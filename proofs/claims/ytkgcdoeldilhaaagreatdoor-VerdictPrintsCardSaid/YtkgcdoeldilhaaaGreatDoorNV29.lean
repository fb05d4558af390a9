/- Verdicts as text: the laws VerdictReads, VerdictPrints: plain. -/
import Derived.Test.YtkgcdoeldilhaaaGreatDoorNV28
set_option linter.all false
namespace Go.Proofs.YtkgcdoeldilhaaaGreatDoor
open Go Go.Sv Go.Pu
theorem v3 (s : Bs) : VC3 s (fun r => r = true) := by
  refine ⟨fun _ => ?_, fun _ => ?_⟩
  · rintro _ rfl; rfl
  rintro _ rfl
  intro _ _
  rintro _ rfl
  intro _ _
  rintro _ rfl
  have e : ref39_Parse s = verdict_Parse s := rfl
  rw [e]
  have : ref39_Same (verdict_Parse s).1 (verdict_Parse s).1 = true := by simp [ref39_Same]
  rw [this]
  refine ⟨fun _ => ?_, fun h => by simp at h⟩
  rintro _ rfl; rfl
theorem v4_J1 (v w : Api_Verdict) (k : Int) (x : Bool) : VC4_J1 v w k (fun r => r = true) x := by
  refine ⟨fun _ => ?_, fun _ => ?_⟩
  · rintro _ rfl; rfl
  rintro _ rfl
  rintro _ rfl
  have e1 : ref39_Print v = verdict_Print v := rfl
  have e2 : ref39_Check v = verdict_Check v := rfl
  have e3 : ref39_Same v w = verdict_Same v w := rfl
  have e4 : ref39_Word k = verdict_Word k := rfl
  rw [e1]
  refine ⟨fun _ => ?_, fun h => by simp at h⟩
  rintro _ rfl
  rintro _ rfl
  rw [e2]
  refine ⟨fun _ => ?_, fun h => by simp at h⟩
  rintro _ rfl
  rintro _ rfl
  rw [e3]
  refine ⟨fun _ => ?_, fun h => by simp at h⟩
  rintro _ rfl
  rintro _ rfl
  rw [e4]
  refine ⟨fun _ => ?_, fun h => by simp at h⟩
  rintro _ rfl; rfl
theorem v4 {P R S : Prop} (v w : Api_Verdict) (k : Int) (_ : P) (_ : R) (_ : S) : VC4 v w k (fun r => r = true) := by
  intro _ _ _ _
  rintro _ rfl
  refine ⟨fun _ => v4_J1 _ _ _ _, fun _ => ?_⟩
  rintro _ rfl
  exact v4_J1 _ _ _ _
end Go.Proofs.YtkgcdoeldilhaaaGreatDoor
