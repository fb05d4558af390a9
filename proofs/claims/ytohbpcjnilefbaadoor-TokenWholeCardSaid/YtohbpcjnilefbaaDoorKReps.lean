/- How the types lie in memory. No condition. -/
import Derived.Test.YtohbpcjnilefbaaDoorKTypes
set_option linter.all false
namespace Go.Proofs.YtohbpcjnilefbaaDoor
open Go Go.Sv
def tToken_Token : TRep Token_Token where
  n := 3
  bytes := 32
  R := fun w χ cs x => cs = [.int .i64 x.Line, .int .i64 x.At, .string (bs x.Text)]
  pos := by decide
  len := by rintro _ _ _ _ rfl; rfl
  one := by rintro _ _ _ _ rfl u hu; simp at hu; rcases hu with rfl | rfl | rfl <;> rfl
  mono := by exact fun _ h => h
theorem Token_Token_f0 {w : World} {χ : Nat → Nat} {cs : List Value} {x : Token_Token} (h : tToken_Token.R w χ cs x) : tI.R w χ ((cs.drop 0).take tI.n) x.Line := by cases h; rfl
theorem Token_Token_f1 {w : World} {χ : Nat → Nat} {cs : List Value} {x : Token_Token} (h : tToken_Token.R w χ cs x) : tI.R w χ ((cs.drop 1).take tI.n) x.At := by cases h; rfl
theorem Token_Token_f2 {w : World} {χ : Nat → Nat} {cs : List Value} {x : Token_Token} (h : tToken_Token.R w χ cs x) : tStr.R w χ ((cs.drop 2).take tStr.n) x.Text := by cases h; rfl
def tRef05_Token : TRep Ref05_Token where
  n := 3
  bytes := 32
  R := fun w χ cs x => cs = [.int .i64 x.Line, .int .i64 x.At, .string (bs x.Text)]
  pos := by decide
  len := by rintro _ _ _ _ rfl; rfl
  one := by rintro _ _ _ _ rfl u hu; simp at hu; rcases hu with rfl | rfl | rfl <;> rfl
  mono := by exact fun _ h => h
theorem Ref05_Token_f0 {w : World} {χ : Nat → Nat} {cs : List Value} {x : Ref05_Token} (h : tRef05_Token.R w χ cs x) : tI.R w χ ((cs.drop 0).take tI.n) x.Line := by cases h; rfl
theorem Ref05_Token_f1 {w : World} {χ : Nat → Nat} {cs : List Value} {x : Ref05_Token} (h : tRef05_Token.R w χ cs x) : tI.R w χ ((cs.drop 1).take tI.n) x.At := by cases h; rfl
theorem Ref05_Token_f2 {w : World} {χ : Nat → Nat} {cs : List Value} {x : Ref05_Token} (h : tRef05_Token.R w χ cs x) : tStr.R w χ ((cs.drop 2).take tStr.n) x.Text := by cases h; rfl
end Go.Proofs.YtohbpcjnilefbaaDoor
