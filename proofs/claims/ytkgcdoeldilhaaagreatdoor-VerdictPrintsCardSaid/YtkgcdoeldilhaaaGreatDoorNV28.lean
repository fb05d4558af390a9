/- Verdicts as text: the document's Parse. -/
import Derived.Test.YtkgcdoeldilhaaaGreatDoorNV27
set_option linter.all false
namespace Go.Proofs.YtkgcdoeldilhaaaGreatDoor
open Go Go.Sv Go.Pu
theorem v5 : VC5 (fun r => r = law39_awake) := by
  have e1 : verdict_Parse [108, 105, 110, 101, 97, 114, 105, 122, 97, 98, 108, 101, 32, 49, 10, 112, 105, 99, 107, 32, 48, 32, 55, 10] = (⟨4, 0, 0, [⟨0, 7⟩], []⟩, 24, 0) := by decide +kernel
  have e2 : verdict_Parse [110, 111, 116, 108, 105, 110, 101, 97, 114, 105, 122, 97, 98, 108, 101, 10, 51, 32, 48, 32, 49, 32, 50, 32, 48, 10] = (⟨5, 0, 0, [], [⟨1, 3, [], [1, 2]⟩]⟩, 26, 0) := by decide +kernel
  have e3 : verdict_Parse [110, 111, 116, 108, 105, 110, 101, 97, 114, 105, 122, 97, 98, 108, 101, 10, 51, 32, 48, 32, 49, 32, 50] = (v0, 23, 4) := by decide +kernel
  have e4 : verdict_Parse [109, 97, 108, 102, 111, 114, 109, 101, 100, 32, 53, 32, 52] = (⟨1, 5, 4, [], []⟩, 13, 0) := by decide +kernel
  have e5 : verdict_Parse [116, 111, 111, 108, 97, 114, 103, 101, 32, 49] = (v0, 9, 6) := by decide +kernel
  have i0 : Lib.itoa 0 = [48] := itoa_d 0 (by decide)
  have i1 : Lib.itoa 1 = [49] := itoa_d 1 (by decide)
  have i7 : Lib.itoa 7 = [55] := itoa_d 7 (by decide)
  have c1 : verdict_Check ⟨4, 0, 0, [⟨0, 7⟩], []⟩ = 0 := by decide +kernel
  have c2 : verdict_Check ⟨0, 0, 0, [], []⟩ = 31 := by decide +kernel
  have p1 : verdict_Print ⟨4, 0, 0, [⟨0, 7⟩], []⟩ = ([108, 105, 110, 101, 97, 114, 105, 122, 97, 98, 108, 101, 32, 49, 10, 112, 105, 99, 107, 32, 48, 32, 55, 10], 0) := by
    show printV _ = _
    rw [print_4 (by exact c1) rfl]
    simp only [List.length_cons, List.length_nil, List.flatMap_cons, List.flatMap_nil, pickT, lineB, wordsB, joinRow, List.map_cons, List.map_nil]
    have e : ((0 + 1 : Nat) : Int) = 1 := rfl
    rw [e, i0, i1, i7]; decide
  have w3 : verdict_Word 3 = [98, 117, 100, 103, 101, 116, 111, 117, 116] := by decide
  have w6 : verdict_Word 6 = [] := by decide
  have s1 : verdict_Same ⟨4, 0, 0, [⟨0, 7⟩], []⟩ ⟨4, 0, 0, [⟨0, 7⟩], []⟩ = true := by decide
  have s2 : verdict_Same ⟨4, 0, 0, [⟨0, 7⟩], []⟩ ⟨5, 0, 0, [], [⟨1, 3, [], [1, 2]⟩]⟩ = false := by decide
  unfold VC5
  simp only [forall_eq', e1, e2, e3, e4, e5, p1, c1, c2, w3, w6, s1, s2]
  simp [law39_awake, gi]
end Go.Proofs.YtkgcdoeldilhaaaGreatDoor
