/- How the types lie in memory. No condition. -/
import Derived.Test.YtebhbnlbfglmkaaDoorPTypes
set_option linter.all false
namespace Go.Proofs.YtebhbnlbfglmkaaDoor
open Go Go.Sv
def tToken_Token : TRep Token_Token where
  n := 3
  bytes := 32
  R := fun w χ cs x => cs = [.int .i64 x.Line, .int .i64 x.At, .string (bs x.Text)]
  pos := by decide
  len := by rintro _ _ _ _ rfl; rfl
  one := by rintro _ _ _ _ rfl u hu; simp at hu; rcases hu with rfl | rfl | rfl <;> rfl
  mono := by exact fun _ h => h
theorem Token_Token_f0 {w : World} {χ : Nat → Nat} {cs : List Value} {x : Token_Token} (h : tToken_Token.R w χ cs x) : tI.R w χ ((cs.drop 0).take tI.n) x.Line := by cases h; rfl
theorem Token_Token_f1 {w : World} {χ : Nat → Nat} {cs : List Value} {x : Token_Token} (h : tToken_Token.R w χ cs x) : tI.R w χ ((cs.drop 1).take tI.n) x.At := by cases h; rfl
theorem Token_Token_f2 {w : World} {χ : Nat → Nat} {cs : List Value} {x : Token_Token} (h : tToken_Token.R w χ cs x) : tStr.R w χ ((cs.drop 2).take tStr.n) x.Text := by cases h; rfl
def tRef05_Token : TRep Ref05_Token where
  n := 3
  bytes := 32
  R := fun w χ cs x => cs = [.int .i64 x.Line, .int .i64 x.At, .string (bs x.Text)]
  pos := by decide
  len := by rintro _ _ _ _ rfl; rfl
  one := by rintro _ _ _ _ rfl u hu; simp at hu; rcases hu with rfl | rfl | rfl <;> rfl
  mono := by exact fun _ h => h
theorem Ref05_Token_f0 {w : World} {χ : Nat → Nat} {cs : List Value} {x : Ref05_Token} (h : tRef05_Token.R w χ cs x) : tI.R w χ ((cs.drop 0).take tI.n) x.Line := by cases h; rfl
theorem Ref05_Token_f1 {w : World} {χ : Nat → Nat} {cs : List Value} {x : Ref05_Token} (h : tRef05_Token.R w χ cs x) : tI.R w χ ((cs.drop 1).take tI.n) x.At := by cases h; rfl
theorem Ref05_Token_f2 {w : World} {χ : Nat → Nat} {cs : List Value} {x : Ref05_Token} (h : tRef05_Token.R w χ cs x) : tStr.R w χ ((cs.drop 2).take tStr.n) x.Text := by cases h; rfl
def tApi_Step : TRep Api_Step where
  n := 4
  bytes := 64
  R := fun w χ cs x => ∃ (a1 : Option Addr) (c1 : Nat) (a2 : Option Addr) (c2 : Nat), cs = [.int .i64 x.Kind, .int .i64 x.Id, .slice a1 x.Lits.length c1, .slice a2 x.Hints.length c2] ∧ RS tI w χ a1 x.Lits c1 ∧ RS tI w χ a2 x.Hints c2
  pos := by decide
  len := by rintro _ _ _ _ ⟨a1, c1, a2, c2, rfl, h0, h1⟩; rfl
  one := by rintro _ _ _ _ ⟨a1, c1, a2, c2, rfl, h0, h1⟩ u hu; simp at hu; rcases hu with rfl | rfl | rfl | rfl <;> rfl
  mono := by rintro _ _ _ _ _ _ m ⟨a1, c1, a2, c2, rfl, h0, h1⟩; exact ⟨a1, c1, a2, c2, rfl, h0.m0 m, h1.m0 m⟩
theorem Api_Step_f0 {w : World} {χ : Nat → Nat} {cs : List Value} {x : Api_Step} (h : tApi_Step.R w χ cs x) : tI.R w χ ((cs.drop 0).take tI.n) x.Kind := by obtain ⟨a1, c1, a2, c2, rfl, h0, h1⟩ := h; rfl
theorem Api_Step_f1 {w : World} {χ : Nat → Nat} {cs : List Value} {x : Api_Step} (h : tApi_Step.R w χ cs x) : tI.R w χ ((cs.drop 1).take tI.n) x.Id := by obtain ⟨a1, c1, a2, c2, rfl, h0, h1⟩ := h; rfl
theorem Api_Step_f2 {w : World} {χ : Nat → Nat} {cs : List Value} {x : Api_Step} (h : tApi_Step.R w χ cs x) : (tSlice tI).R w χ ((cs.drop 2).take (tSlice tI).n) x.Lits := by obtain ⟨a1, c1, a2, c2, rfl, h0, h1⟩ := h; exact ⟨a1, c1, rfl, h0⟩
theorem Api_Step_f3 {w : World} {χ : Nat → Nat} {cs : List Value} {x : Api_Step} (h : tApi_Step.R w χ cs x) : (tSlice tI).R w χ ((cs.drop 3).take (tSlice tI).n) x.Hints := by obtain ⟨a1, c1, a2, c2, rfl, h0, h1⟩ := h; exact ⟨a2, c2, rfl, h1⟩
def tProof_line : TRep Proof_line where
  n := 3
  bytes := 40
  R := fun w χ cs x => ∃ (a1 : Option Addr) (c1 : Nat), cs = [.slice a1 x.rest.length c1, .int .i64 x.at_, .int .i64 x.e] ∧ RS tToken_Token w χ a1 x.rest c1
  pos := by decide
  len := by rintro _ _ _ _ ⟨a1, c1, rfl, h0⟩; rfl
  one := by rintro _ _ _ _ ⟨a1, c1, rfl, h0⟩ u hu; simp at hu; rcases hu with rfl | rfl | rfl <;> rfl
  mono := by rintro _ _ _ _ _ _ m ⟨a1, c1, rfl, h0⟩; exact ⟨a1, c1, rfl, h0.m0 m⟩
theorem Proof_line_f0 {w : World} {χ : Nat → Nat} {cs : List Value} {x : Proof_line} (h : tProof_line.R w χ cs x) : (tSlice tToken_Token).R w χ ((cs.drop 0).take (tSlice tToken_Token).n) x.rest := by obtain ⟨a1, c1, rfl, h0⟩ := h; exact ⟨a1, c1, rfl, h0⟩
theorem Proof_line_f1 {w : World} {χ : Nat → Nat} {cs : List Value} {x : Proof_line} (h : tProof_line.R w χ cs x) : tI.R w χ ((cs.drop 1).take tI.n) x.at_ := by obtain ⟨a1, c1, rfl, h0⟩ := h; rfl
theorem Proof_line_f2 {w : World} {χ : Nat → Nat} {cs : List Value} {x : Proof_line} (h : tProof_line.R w χ cs x) : tI.R w χ ((cs.drop 2).take tI.n) x.e := by obtain ⟨a1, c1, rfl, h0⟩ := h; rfl
def tRef10_Row : TRep Ref10_Row where
  n := 4
  bytes := 48
  R := fun w χ cs x => ∃ (a1 : Option Addr) (c1 : Nat), cs = [.slice a1 x.L.length c1, .int .i64 x.Taken, .int .i64 x.At, .int .i64 x.E] ∧ RS tI w χ a1 x.L c1
  pos := by decide
  len := by rintro _ _ _ _ ⟨a1, c1, rfl, h0⟩; rfl
  one := by rintro _ _ _ _ ⟨a1, c1, rfl, h0⟩ u hu; simp at hu; rcases hu with rfl | rfl | rfl | rfl <;> rfl
  mono := by rintro _ _ _ _ _ _ m ⟨a1, c1, rfl, h0⟩; exact ⟨a1, c1, rfl, h0.m0 m⟩
theorem Ref10_Row_f0 {w : World} {χ : Nat → Nat} {cs : List Value} {x : Ref10_Row} (h : tRef10_Row.R w χ cs x) : (tSlice tI).R w χ ((cs.drop 0).take (tSlice tI).n) x.L := by obtain ⟨a1, c1, rfl, h0⟩ := h; exact ⟨a1, c1, rfl, h0⟩
theorem Ref10_Row_f1 {w : World} {χ : Nat → Nat} {cs : List Value} {x : Ref10_Row} (h : tRef10_Row.R w χ cs x) : tI.R w χ ((cs.drop 1).take tI.n) x.Taken := by obtain ⟨a1, c1, rfl, h0⟩ := h; rfl
theorem Ref10_Row_f2 {w : World} {χ : Nat → Nat} {cs : List Value} {x : Ref10_Row} (h : tRef10_Row.R w χ cs x) : tI.R w χ ((cs.drop 2).take tI.n) x.At := by obtain ⟨a1, c1, rfl, h0⟩ := h; rfl
theorem Ref10_Row_f3 {w : World} {χ : Nat → Nat} {cs : List Value} {x : Ref10_Row} (h : tRef10_Row.R w χ cs x) : tI.R w χ ((cs.drop 3).take tI.n) x.E := by obtain ⟨a1, c1, rfl, h0⟩ := h; rfl
end Go.Proofs.YtebhbnlbfglmkaaDoor
