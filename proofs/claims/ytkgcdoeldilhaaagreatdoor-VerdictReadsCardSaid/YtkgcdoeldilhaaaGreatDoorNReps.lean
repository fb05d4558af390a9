/- How the types lie in memory. No condition. -/
import Derived.Test.YtkgcdoeldilhaaaGreatDoorNTypes
set_option linter.all false
namespace Go.Proofs.YtkgcdoeldilhaaaGreatDoor
open Go Go.Sv
def tToken_Token : TRep Token_Token where
  n := 3
  bytes := 32
  R := fun w χ cs x => cs = [.int .i64 x.Line, .int .i64 x.At, .string (bs x.Text)]
  pos := by decide
  len := by rintro _ _ _ _ rfl; rfl
  one := by rintro _ _ _ _ rfl u hu; simp at hu; rcases hu with rfl | rfl | rfl <;> rfl
  mono := by exact fun _ h => h
theorem Token_Token_f1 {w : World} {χ : Nat → Nat} {cs : List Value} {x : Token_Token} (h : tToken_Token.R w χ cs x) : tI.R w χ ((cs.drop 1).take tI.n) x.At := by cases h; rfl
theorem Token_Token_f2 {w : World} {χ : Nat → Nat} {cs : List Value} {x : Token_Token} (h : tToken_Token.R w χ cs x) : tStr.R w χ ((cs.drop 2).take tStr.n) x.Text := by cases h; rfl
def tRef05_Token : TRep Ref05_Token where
  n := 3
  bytes := 32
  R := fun w χ cs x => cs = [.int .i64 x.Line, .int .i64 x.At, .string (bs x.Text)]
  pos := by decide
  len := by rintro _ _ _ _ rfl; rfl
  one := by rintro _ _ _ _ rfl u hu; simp at hu; rcases hu with rfl | rfl | rfl <;> rfl
  mono := by exact fun _ h => h
theorem Ref05_Token_f1 {w : World} {χ : Nat → Nat} {cs : List Value} {x : Ref05_Token} (h : tRef05_Token.R w χ cs x) : tI.R w χ ((cs.drop 1).take tI.n) x.At := by cases h; rfl
theorem Ref05_Token_f2 {w : World} {χ : Nat → Nat} {cs : List Value} {x : Ref05_Token} (h : tRef05_Token.R w χ cs x) : tStr.R w χ ((cs.drop 2).take tStr.n) x.Text := by cases h; rfl
def tApi_Step : TRep Api_Step where
  n := 4
  bytes := 64
  R := fun w χ cs x => ∃ (a1 : Option Addr) (c1 : Nat) (a2 : Option Addr) (c2 : Nat), cs = [.int .i64 x.Kind, .int .i64 x.Id, .slice a1 x.Lits.length c1, .slice a2 x.Hints.length c2] ∧ RS tI w χ a1 x.Lits c1 ∧ RS tI w χ a2 x.Hints c2
  pos := by decide
  len := by rintro _ _ _ _ ⟨a1, c1, a2, c2, rfl, h0, h1⟩; rfl
  one := by rintro _ _ _ _ ⟨a1, c1, a2, c2, rfl, h0, h1⟩ u hu; simp at hu; rcases hu with rfl | rfl | rfl | rfl <;> rfl
  mono := by rintro _ _ _ _ _ _ m ⟨a1, c1, a2, c2, rfl, h0, h1⟩; exact ⟨a1, c1, a2, c2, rfl, h0.m0 m, h1.m0 m⟩
theorem Api_Step_f0 {w : World} {χ : Nat → Nat} {cs : List Value} {x : Api_Step} (h : tApi_Step.R w χ cs x) : tI.R w χ ((cs.drop 0).take tI.n) x.Kind := by obtain ⟨a1, c1, a2, c2, rfl, h0, h1⟩ := h; rfl
theorem Api_Step_f1 {w : World} {χ : Nat → Nat} {cs : List Value} {x : Api_Step} (h : tApi_Step.R w χ cs x) : tI.R w χ ((cs.drop 1).take tI.n) x.Id := by obtain ⟨a1, c1, a2, c2, rfl, h0, h1⟩ := h; rfl
theorem Api_Step_f2 {w : World} {χ : Nat → Nat} {cs : List Value} {x : Api_Step} (h : tApi_Step.R w χ cs x) : (tSlice tI).R w χ ((cs.drop 2).take (tSlice tI).n) x.Lits := by obtain ⟨a1, c1, a2, c2, rfl, h0, h1⟩ := h; exact ⟨a1, c1, rfl, h0⟩
theorem Api_Step_f3 {w : World} {χ : Nat → Nat} {cs : List Value} {x : Api_Step} (h : tApi_Step.R w χ cs x) : (tSlice tI).R w χ ((cs.drop 3).take (tSlice tI).n) x.Hints := by obtain ⟨a1, c1, a2, c2, rfl, h0, h1⟩ := h; exact ⟨a2, c2, rfl, h1⟩
def tApi_Pick : TRep Api_Pick where
  n := 2
  bytes := 16
  R := fun w χ cs x => cs = [.int .i64 x.Oper, .int .i64 x.Result]
  pos := by decide
  len := by rintro _ _ _ _ rfl; rfl
  one := by rintro _ _ _ _ rfl u hu; simp at hu; rcases hu with rfl | rfl <;> rfl
  mono := by exact fun _ h => h
theorem Api_Pick_f0 {w : World} {χ : Nat → Nat} {cs : List Value} {x : Api_Pick} (h : tApi_Pick.R w χ cs x) : tI.R w χ ((cs.drop 0).take tI.n) x.Oper := by cases h; rfl
theorem Api_Pick_f1 {w : World} {χ : Nat → Nat} {cs : List Value} {x : Api_Pick} (h : tApi_Pick.R w χ cs x) : tI.R w χ ((cs.drop 1).take tI.n) x.Result := by cases h; rfl
end Go.Proofs.YtkgcdoeldilhaaaGreatDoor
