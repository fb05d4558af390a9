/- How the types lie in memory. No condition. -/
import Derived.Test.YtmedefjboagkmaaDoorOTypes
set_option linter.all false
namespace Go.Proofs.YtmedefjboagkmaaDoor
open Go Go.Sv
def tToken_Token : TRep Token_Token where
  n := 3
  bytes := 32
  R := fun w χ cs x => cs = [.int .i64 x.Line, .int .i64 x.At, .string (bs x.Text)]
  pos := by decide
  len := by rintro _ _ _ _ rfl; rfl
  one := by rintro _ _ _ _ rfl u hu; simp at hu; rcases hu with rfl | rfl | rfl <;> rfl
  mono := by exact fun _ h => h
theorem Token_Token_f0 {w : World} {χ : Nat → Nat} {cs : List Value} {x : Token_Token} (h : tToken_Token.R w χ cs x) : tI.R w χ ((cs.drop 0).take tI.n) x.Line := by cases h; rfl
theorem Token_Token_f1 {w : World} {χ : Nat → Nat} {cs : List Value} {x : Token_Token} (h : tToken_Token.R w χ cs x) : tI.R w χ ((cs.drop 1).take tI.n) x.At := by cases h; rfl
theorem Token_Token_f2 {w : World} {χ : Nat → Nat} {cs : List Value} {x : Token_Token} (h : tToken_Token.R w χ cs x) : tStr.R w χ ((cs.drop 2).take tStr.n) x.Text := by cases h; rfl
def tRef05_Token : TRep Ref05_Token where
  n := 3
  bytes := 32
  R := fun w χ cs x => cs = [.int .i64 x.Line, .int .i64 x.At, .string (bs x.Text)]
  pos := by decide
  len := by rintro _ _ _ _ rfl; rfl
  one := by rintro _ _ _ _ rfl u hu; simp at hu; rcases hu with rfl | rfl | rfl <;> rfl
  mono := by exact fun _ h => h
theorem Ref05_Token_f0 {w : World} {χ : Nat → Nat} {cs : List Value} {x : Ref05_Token} (h : tRef05_Token.R w χ cs x) : tI.R w χ ((cs.drop 0).take tI.n) x.Line := by cases h; rfl
theorem Ref05_Token_f1 {w : World} {χ : Nat → Nat} {cs : List Value} {x : Ref05_Token} (h : tRef05_Token.R w χ cs x) : tI.R w χ ((cs.drop 1).take tI.n) x.At := by cases h; rfl
theorem Ref05_Token_f2 {w : World} {χ : Nat → Nat} {cs : List Value} {x : Ref05_Token} (h : tRef05_Token.R w χ cs x) : tStr.R w χ ((cs.drop 2).take tStr.n) x.Text := by cases h; rfl
def tApi_Row : TRep Api_Row where
  n := 4
  bytes := 32
  R := fun w χ cs x => cs = [.int .i64 x.State, .int .i64 x.Kind, .int .i64 x.Next, .int .i64 x.Result]
  pos := by decide
  len := by rintro _ _ _ _ rfl; rfl
  one := by rintro _ _ _ _ rfl u hu; simp at hu; rcases hu with rfl | rfl | rfl | rfl <;> rfl
  mono := by exact fun _ h => h
theorem Api_Row_f0 {w : World} {χ : Nat → Nat} {cs : List Value} {x : Api_Row} (h : tApi_Row.R w χ cs x) : tI.R w χ ((cs.drop 0).take tI.n) x.State := by cases h; rfl
theorem Api_Row_f1 {w : World} {χ : Nat → Nat} {cs : List Value} {x : Api_Row} (h : tApi_Row.R w χ cs x) : tI.R w χ ((cs.drop 1).take tI.n) x.Kind := by cases h; rfl
theorem Api_Row_f2 {w : World} {χ : Nat → Nat} {cs : List Value} {x : Api_Row} (h : tApi_Row.R w χ cs x) : tI.R w χ ((cs.drop 2).take tI.n) x.Next := by cases h; rfl
theorem Api_Row_f3 {w : World} {χ : Nat → Nat} {cs : List Value} {x : Api_Row} (h : tApi_Row.R w χ cs x) : tI.R w χ ((cs.drop 3).take tI.n) x.Result := by cases h; rfl
def tApi_Object : TRep Api_Object where
  n := 4
  bytes := 48
  R := fun w χ cs x => ∃ (a1 : Option Addr) (c1 : Nat), cs = [.int .i64 x.States, .int .i64 x.Kinds, .int .i64 x.Init, .slice a1 x.Rows.length c1] ∧ RS tApi_Row w χ a1 x.Rows c1
  pos := by decide
  len := by rintro _ _ _ _ ⟨a1, c1, rfl, h0⟩; rfl
  one := by rintro _ _ _ _ ⟨a1, c1, rfl, h0⟩ u hu; simp at hu; rcases hu with rfl | rfl | rfl | rfl <;> rfl
  mono := by rintro _ _ _ _ _ _ m ⟨a1, c1, rfl, h0⟩; exact ⟨a1, c1, rfl, h0.m0 m⟩
theorem Api_Object_f0 {w : World} {χ : Nat → Nat} {cs : List Value} {x : Api_Object} (h : tApi_Object.R w χ cs x) : tI.R w χ ((cs.drop 0).take tI.n) x.States := by obtain ⟨a1, c1, rfl, h0⟩ := h; rfl
theorem Api_Object_f1 {w : World} {χ : Nat → Nat} {cs : List Value} {x : Api_Object} (h : tApi_Object.R w χ cs x) : tI.R w χ ((cs.drop 1).take tI.n) x.Kinds := by obtain ⟨a1, c1, rfl, h0⟩ := h; rfl
theorem Api_Object_f2 {w : World} {χ : Nat → Nat} {cs : List Value} {x : Api_Object} (h : tApi_Object.R w χ cs x) : tI.R w χ ((cs.drop 2).take tI.n) x.Init := by obtain ⟨a1, c1, rfl, h0⟩ := h; rfl
theorem Api_Object_f3 {w : World} {χ : Nat → Nat} {cs : List Value} {x : Api_Object} (h : tApi_Object.R w χ cs x) : (tSlice tApi_Row).R w χ ((cs.drop 3).take (tSlice tApi_Row).n) x.Rows := by obtain ⟨a1, c1, rfl, h0⟩ := h; exact ⟨a1, c1, rfl, h0⟩
end Go.Proofs.YtmedefjboagkmaaDoor
