/- Texts of lines, numerals: plain. -/
import Derived.Test.YtkgcdoeldilhaaaGreatDoorNV8
import Derived.Lib.ItoaLen
set_option linter.all false
namespace Go.Proofs.YtkgcdoeldilhaaaGreatDoor
open Go Go.Sv Go.Pu
theorem itoa_d (k : Nat) (h : k < 10) : Lib.itoa (k : Int) = [UInt8.ofNat (48 + k)] := by rw [Lib.itoa_nonneg, Lib.decDigits_one h]
theorem itoa_len {x : Int} (h : inR .i64 x) : (Lib.itoa x).length ≤ 21 := Lib.itoa_length_le x h.1 h.2
end Go.Proofs.YtkgcdoeldilhaaaGreatDoor
