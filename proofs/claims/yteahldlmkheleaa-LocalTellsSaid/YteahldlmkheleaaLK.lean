/- A spot as a map's key. -/
import Derived.Test.YteahldlmkheleaaSk
import Derived.Test.YteahldlmkheleaaLTypes
set_option linter.all false
namespace Go.Proofs.Yteahldlmkheleaa
open Go Go.Sv
def aI (s : bC) : Value := .agg #[.int .u32 s.done, .int .i64 s.state]
theorem oo : Try.prog.underlying 147 = some (.struct (Try.prog.fieldsOf 147)) := by kernel_rfl
theorem pf (k : bC) (b : Bool) (w : World) : (Instr.checkKey b 10000 147 (aI k)).run Try.prog w = .ok () w := by kernel_rfl
theorem nO (a : bC) : iI Try.prog 147 [.int .u32 a.done, .int .i64 a.state] = true := by kernel_rfl
theorem mH (a b : bC) : ea [.int .u32 a.done, .int .i64 a.state] [.int .u32 b.done, .int .i64 b.state] = some (a.done == b.done && (a.state == b.state && true)) := by kernel_rfl
theorem nN : (Try.prog.fieldsOf 147).size = 2 := by kernel_rfl
theorem oC {o : Option TypeDesc} {a fs : Array Field} {n : Nat} (h1 : o = some (.struct a)) (h2 : o = some (.struct fs)) (h : a.size = n) : n = fs.size := by
  rw [h1] at h2
  cases h2
  exact h.symm
theorem dQ : KOK Try.prog 147 aI where
  ck := pf
  un := ⟨_, oo, fun a b => rfl⟩
  eq := fun a b w => by
    have h := gu (w := w) (nO a) (mH a b) (fun fs hf => oC oo hf nN)
    have e : (a.done == b.done && (a.state == b.state && true)) = decide (a = b) := by
      obtain ⟨a1, a2⟩ := a
      obtain ⟨b1, b2⟩ := b
      rw [Bool.eq_iff_iff]; simp
    rw [e] at h
    unfold Op.equal Op.maxDepth
    exact h
  ks := fun k w => by
    have h : Instr.sameBits 10000 (aI k) (aI k) = true := by
      unfold aI
      show Instr.sameBits (9999 + 1) _ _ = true
      simp [Instr.sameBits]
    simp [Instr.keyThatStays, h]
  inj := fun a b h => by
    unfold aI at h
    obtain ⟨a1, a2⟩ := a
    obtain ⟨b1, b2⟩ := b
    simp at h
    simp [h]
end Go.Proofs.Yteahldlmkheleaa
