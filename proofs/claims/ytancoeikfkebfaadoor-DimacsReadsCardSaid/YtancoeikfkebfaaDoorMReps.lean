/- How the types lie in memory. No condition. -/
import Derived.Test.YtancoeikfkebfaaDoorMTypes
set_option linter.all false
namespace Go.Proofs.YtancoeikfkebfaaDoor
open Go Go.Sv
def tToken_Token : TRep Token_Token where
  n := 3
  bytes := 32
  R := fun w χ cs x => cs = [.int .i64 x.Line, .int .i64 x.At, .string (bs x.Text)]
  pos := by decide
  len := by rintro _ _ _ _ rfl; rfl
  one := by rintro _ _ _ _ rfl u hu; simp at hu; rcases hu with rfl | rfl | rfl <;> rfl
  mono := by exact fun _ h => h
theorem Token_Token_f0 {w : World} {χ : Nat → Nat} {cs : List Value} {x : Token_Token} (h : tToken_Token.R w χ cs x) : tI.R w χ ((cs.drop 0).take tI.n) x.Line := by cases h; rfl
theorem Token_Token_f1 {w : World} {χ : Nat → Nat} {cs : List Value} {x : Token_Token} (h : tToken_Token.R w χ cs x) : tI.R w χ ((cs.drop 1).take tI.n) x.At := by cases h; rfl
theorem Token_Token_f2 {w : World} {χ : Nat → Nat} {cs : List Value} {x : Token_Token} (h : tToken_Token.R w χ cs x) : tStr.R w χ ((cs.drop 2).take tStr.n) x.Text := by cases h; rfl
def tRef05_Token : TRep Ref05_Token where
  n := 3
  bytes := 32
  R := fun w χ cs x => cs = [.int .i64 x.Line, .int .i64 x.At, .string (bs x.Text)]
  pos := by decide
  len := by rintro _ _ _ _ rfl; rfl
  one := by rintro _ _ _ _ rfl u hu; simp at hu; rcases hu with rfl | rfl | rfl <;> rfl
  mono := by exact fun _ h => h
theorem Ref05_Token_f0 {w : World} {χ : Nat → Nat} {cs : List Value} {x : Ref05_Token} (h : tRef05_Token.R w χ cs x) : tI.R w χ ((cs.drop 0).take tI.n) x.Line := by cases h; rfl
theorem Ref05_Token_f1 {w : World} {χ : Nat → Nat} {cs : List Value} {x : Ref05_Token} (h : tRef05_Token.R w χ cs x) : tI.R w χ ((cs.drop 1).take tI.n) x.At := by cases h; rfl
theorem Ref05_Token_f2 {w : World} {χ : Nat → Nat} {cs : List Value} {x : Ref05_Token} (h : tRef05_Token.R w χ cs x) : tStr.R w χ ((cs.drop 2).take tStr.n) x.Text := by cases h; rfl
def tApi_Formula : TRep Api_Formula where
  n := 2
  bytes := 32
  R := fun w χ cs x => ∃ (a1 : Option Addr) (c1 : Nat), cs = [.int .i64 x.Vars, .slice a1 x.Clauses.length c1] ∧ RS (tSlice tI) w χ a1 x.Clauses c1
  pos := by decide
  len := by rintro _ _ _ _ ⟨a1, c1, rfl, h0⟩; rfl
  one := by rintro _ _ _ _ ⟨a1, c1, rfl, h0⟩ u hu; simp at hu; rcases hu with rfl | rfl <;> rfl
  mono := by rintro _ _ _ _ _ _ m ⟨a1, c1, rfl, h0⟩; exact ⟨a1, c1, rfl, h0.m0 m⟩
theorem Api_Formula_f0 {w : World} {χ : Nat → Nat} {cs : List Value} {x : Api_Formula} (h : tApi_Formula.R w χ cs x) : tI.R w χ ((cs.drop 0).take tI.n) x.Vars := by obtain ⟨a1, c1, rfl, h0⟩ := h; rfl
theorem Api_Formula_f1 {w : World} {χ : Nat → Nat} {cs : List Value} {x : Api_Formula} (h : tApi_Formula.R w χ cs x) : (tSlice (tSlice tI)).R w χ ((cs.drop 1).take (tSlice (tSlice tI)).n) x.Clauses := by obtain ⟨a1, c1, rfl, h0⟩ := h; exact ⟨a1, c1, rfl, h0⟩
def tDimacs_fault : TRep Dimacs_fault where
  n := 2
  bytes := 16
  R := fun w χ cs x => cs = [.int .i64 x.at_, .int .i64 x.e]
  pos := by decide
  len := by rintro _ _ _ _ rfl; rfl
  one := by rintro _ _ _ _ rfl u hu; simp at hu; rcases hu with rfl | rfl <;> rfl
  mono := by exact fun _ h => h
theorem Dimacs_fault_f0 {w : World} {χ : Nat → Nat} {cs : List Value} {x : Dimacs_fault} (h : tDimacs_fault.R w χ cs x) : tI.R w χ ((cs.drop 0).take tI.n) x.at_ := by cases h; rfl
theorem Dimacs_fault_f1 {w : World} {χ : Nat → Nat} {cs : List Value} {x : Dimacs_fault} (h : tDimacs_fault.R w χ cs x) : tI.R w χ ((cs.drop 1).take tI.n) x.e := by cases h; rfl
def tDimacs_reader : TRep Dimacs_reader where
  n := 4
  bytes := 48
  R := fun w χ cs x => ∃ (a1 : Option Addr) (c1 : Nat), cs = [.int .i64 x.fault.at_, .int .i64 x.fault.e, .slice a1 x.rest.length c1, .int .i64 x.end_] ∧ RS tToken_Token w χ a1 x.rest c1
  pos := by decide
  len := by rintro _ _ _ _ ⟨a1, c1, rfl, h0⟩; rfl
  one := by rintro _ _ _ _ ⟨a1, c1, rfl, h0⟩ u hu; simp at hu; rcases hu with rfl | rfl | rfl | rfl <;> rfl
  mono := by rintro _ _ _ _ _ _ m ⟨a1, c1, rfl, h0⟩; exact ⟨a1, c1, rfl, h0.m0 m⟩
theorem Dimacs_reader_f0 {w : World} {χ : Nat → Nat} {cs : List Value} {x : Dimacs_reader} (h : tDimacs_reader.R w χ cs x) : tDimacs_fault.R w χ ((cs.drop 0).take tDimacs_fault.n) x.fault := by obtain ⟨a1, c1, rfl, h0⟩ := h; rfl
theorem Dimacs_reader_f1 {w : World} {χ : Nat → Nat} {cs : List Value} {x : Dimacs_reader} (h : tDimacs_reader.R w χ cs x) : (tSlice tToken_Token).R w χ ((cs.drop 2).take (tSlice tToken_Token).n) x.rest := by obtain ⟨a1, c1, rfl, h0⟩ := h; exact ⟨a1, c1, rfl, h0⟩
theorem Dimacs_reader_f2 {w : World} {χ : Nat → Nat} {cs : List Value} {x : Dimacs_reader} (h : tDimacs_reader.R w χ cs x) : tI.R w χ ((cs.drop 3).take tI.n) x.end_ := by obtain ⟨a1, c1, rfl, h0⟩ := h; rfl
end Go.Proofs.YtancoeikfkebfaaDoor
