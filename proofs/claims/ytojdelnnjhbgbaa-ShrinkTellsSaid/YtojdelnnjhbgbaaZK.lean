/- A spot as a map's key. -/
import Derived.Test.YtojdelnnjhbgbaaSk
import Derived.Test.YtojdelnnjhbgbaaZTypes
set_option linter.all false
namespace Go.Proofs.Ytojdelnnjhbgbaa
open Go Go.Sv
def kvSearch_spot (s : Search_spot) : Value := .agg #[.int .u32 s.done, .int .i64 s.state]
theorem spot_u : Try.prog.underlying 121 = some (.struct (Try.prog.fieldsOf 121)) := by kernel_rfl
theorem spot_ck (k : Search_spot) (b : Bool) (w : World) : (Instr.checkKey b 10000 121 (kvSearch_spot k)).run Try.prog w = .ok () w := by kernel_rfl
theorem spot_flat (a : Search_spot) : flatS Try.prog 121 [.int .u32 a.done, .int .i64 a.state] = true := by kernel_rfl
theorem spot_cells (a b : Search_spot) : eqCells [.int .u32 a.done, .int .i64 a.state] [.int .u32 b.done, .int .i64 b.state] = some (a.done == b.done && (a.state == b.state && true)) := by kernel_rfl
theorem spot_size : (Try.prog.fieldsOf 121).size = 2 := by kernel_rfl
theorem opt_size {o : Option TypeDesc} {a fs : Array Field} {n : Nat} (h1 : o = some (.struct a)) (h2 : o = some (.struct fs)) (h : a.size = n) : n = fs.size := by
  rw [h1] at h2
  cases h2
  exact h.symm
theorem kokSearch_spot : KOK Try.prog 121 kvSearch_spot where
  ck := spot_ck
  un := ⟨_, spot_u, fun a b => rfl⟩
  eq := fun a b w => by
    have h := run_structEq (w := w) (spot_flat a) (spot_cells a b) (fun fs hf => opt_size spot_u hf spot_size)
    have e : (a.done == b.done && (a.state == b.state && true)) = decide (a = b) := by
      obtain ⟨a1, a2⟩ := a
      obtain ⟨b1, b2⟩ := b
      rw [Bool.eq_iff_iff]; simp
    rw [e] at h
    unfold Op.equal Op.maxDepth
    exact h
  ks := fun k w => by
    have h : Instr.sameBits 10000 (kvSearch_spot k) (kvSearch_spot k) = true := by
      unfold kvSearch_spot
      show Instr.sameBits (9999 + 1) _ _ = true
      simp [Instr.sameBits]
    simp [Instr.keyThatStays, h]
  inj := fun a b h => by
    unfold kvSearch_spot at h
    obtain ⟨a1, a2⟩ := a
    obtain ⟨b1, b2⟩ := b
    simp at h
    simp [h]
end Go.Proofs.Ytojdelnnjhbgbaa
