/- Lemmas. Conditions: in each lemma. -/
import Derived.WalkKit
import Derived.ProofKit
import Derived.Test.YtkgcdoeldilhaaaGreatDoorSw
import Derived.Test.YtkgcdoeldilhaaaGreatDoorTab
import Derived.Lib.LaidTab
import Derived.Lib.ItoaNum
set_option linter.all false
namespace Go.Proofs.YtkgcdoeldilhaaaGreatDoor
open Go Go.Sv Go.RowKit Go.Lib
def Amb (w : World) (χ : Nat → Nat) : Prop := Lib.TabIs Tryz.prog w "internal/strconv.uint64pow10" .u64 Lib.pow10Tab ∧ ∀ g, Tryz.prog.globalNamed "internal/strconv.uint64pow10" = some g → χ g = 0
theorem Amb.m0 {w w' : World} {χ χ' : Nat → Nat} (h : Amb w χ) (m : M0 w χ w' χ') : Amb w' χ' := by
  obtain ⟨h1, h2⟩ := h
  unfold Lib.TabIs World.var? at h1
  cases hg : Tryz.prog.globalNamed "internal/strconv.uint64pow10" with
  | none => rw [hg] at h1; cases h1
  | some g =>
    rw [hg] at h1
    cases hw : w.heap[g]? with
    | none => simp [hw] at h1
    | some o =>
      obtain ⟨k1, k2⟩ := m.keep g (lt_heap hw) (h2 g hg)
      refine ⟨?_, fun g' hg' => ?_⟩
      · unfold Lib.TabIs World.var?
        rw [hg]
        simp only [Option.bind_some, k1]
        exact h1
      · rw [hg] at hg'; cases hg'; exact k2
theorem Amb.mv {w w' : World} {χ χ' : Nat → Nat} {p : Nat → Bool} (h : Amb w χ) (e : Ev p w χ w' χ') (hp : p 0 = false) : Amb w' χ' := h.m0 (e.m0 hp)
end Go.Proofs.YtkgcdoeldilhaaaGreatDoor
