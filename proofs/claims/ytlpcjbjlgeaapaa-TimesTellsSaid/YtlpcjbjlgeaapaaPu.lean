/- Arithmetic within bounds. No condition. -/
import Derived.Test.YtlpcjbjlgeaapaaSv
set_option linter.all false
namespace Go.Pu
open Go Go.Sv

theorem wdef (n : Int) : IntKind.i64.wrap n = (n + 9223372036854775808) % 18446744073709551616 - 9223372036854775808 := by
  simp [IntKind.wrap, IntKind.signed, IntKind.bits]; try omega

theorem wrp {n : Int} (h0 : -9223372036854775808 ≤ n) (h1 : n ≤ 9223372036854775807) : IntKind.i64.wrap n = n := by
  rw [wdef]; omega

theorem mulb {a b A B : Int} (h0 : 0 ≤ a) (h1 : a ≤ A) (h2 : 0 ≤ b) (h3 : b ≤ B) : 0 ≤ a * b ∧ a * b ≤ A * B :=
  ⟨Int.mul_nonneg h0 h2, Int.mul_le_mul h1 h3 h2 (by omega)⟩

theorem gi_nat {α : Type} [Inhabited α] (xs : List α) (i : Nat) (h : i < xs.length) : gi xs (i : Int) = xs[i] := by
  simp [gi, h]

theorem gi_cast {α : Type} [Inhabited α] {xs : List α} {i : Int} (h0 : 0 ≤ i) (h1 : i < xs.length) : gi xs i = xs[i.toNat]'(by omega) := by
  have : i.toNat < xs.length := by omega
  simp [gi, this]
end Go.Pu
