/- How the types lie in memory. No condition. -/
import Derived.Test.YtlpcjbjlgeaapaaTTypes
set_option linter.all false
namespace Go.Proofs.Ytlpcjbjlgeaapaa
open Go Go.Sv
def tNumbering_Size : TRep Numbering_Size where
  n := 2
  bytes := 16
  R := fun w χ cs x => cs = [.int .i64 x.Ops, .int .i64 x.States]
  pos := by decide
  len := by rintro _ _ _ _ rfl; rfl
  one := by rintro _ _ _ _ rfl u hu; simp at hu; rcases hu with rfl | rfl <;> rfl
  mono := by exact fun _ h => h
theorem Numbering_Size_f0 {w : World} {χ : Nat → Nat} {cs : List Value} {x : Numbering_Size} (h : tNumbering_Size.R w χ cs x) : tI.R w χ ((cs.drop 0).take tI.n) x.Ops := by cases h; rfl
theorem Numbering_Size_f1 {w : World} {χ : Nat → Nat} {cs : List Value} {x : Numbering_Size} (h : tNumbering_Size.R w χ cs x) : tI.R w χ ((cs.drop 1).take tI.n) x.States := by cases h; rfl
def tNumbering_Name : TRep Numbering_Name where
  n := 3
  bytes := 24
  R := fun w χ cs x => cs = [.int .i64 x.Kind, .int .i64 x.A, .int .i64 x.B]
  pos := by decide
  len := by rintro _ _ _ _ rfl; rfl
  one := by rintro _ _ _ _ rfl u hu; simp at hu; rcases hu with rfl | rfl | rfl <;> rfl
  mono := by exact fun _ h => h
theorem Numbering_Name_f0 {w : World} {χ : Nat → Nat} {cs : List Value} {x : Numbering_Name} (h : tNumbering_Name.R w χ cs x) : tI.R w χ ((cs.drop 0).take tI.n) x.Kind := by cases h; rfl
theorem Numbering_Name_f1 {w : World} {χ : Nat → Nat} {cs : List Value} {x : Numbering_Name} (h : tNumbering_Name.R w χ cs x) : tI.R w χ ((cs.drop 1).take tI.n) x.A := by cases h; rfl
theorem Numbering_Name_f2 {w : World} {χ : Nat → Nat} {cs : List Value} {x : Numbering_Name} (h : tNumbering_Name.R w χ cs x) : tI.R w χ ((cs.drop 2).take tI.n) x.B := by cases h; rfl
def tRef31_Name : TRep Ref31_Name where
  n := 3
  bytes := 24
  R := fun w χ cs x => cs = [.int .i64 x.Kind, .int .i64 x.A, .int .i64 x.B]
  pos := by decide
  len := by rintro _ _ _ _ rfl; rfl
  one := by rintro _ _ _ _ rfl u hu; simp at hu; rcases hu with rfl | rfl | rfl <;> rfl
  mono := by exact fun _ h => h
theorem Ref31_Name_f0 {w : World} {χ : Nat → Nat} {cs : List Value} {x : Ref31_Name} (h : tRef31_Name.R w χ cs x) : tI.R w χ ((cs.drop 0).take tI.n) x.Kind := by cases h; rfl
theorem Ref31_Name_f1 {w : World} {χ : Nat → Nat} {cs : List Value} {x : Ref31_Name} (h : tRef31_Name.R w χ cs x) : tI.R w χ ((cs.drop 1).take tI.n) x.A := by cases h; rfl
theorem Ref31_Name_f2 {w : World} {χ : Nat → Nat} {cs : List Value} {x : Ref31_Name} (h : tRef31_Name.R w χ cs x) : tI.R w χ ((cs.drop 2).take tI.n) x.B := by cases h; rfl
def tApi_Formula : TRep Api_Formula where
  n := 2
  bytes := 32
  R := fun w χ cs x => ∃ (a1 : Option Addr) (c1 : Nat), cs = [.int .i64 x.Vars, .slice a1 x.Clauses.length c1] ∧ RS (tSlice tI) w χ a1 x.Clauses c1
  pos := by decide
  len := by rintro _ _ _ _ ⟨a1, c1, rfl, h0⟩; rfl
  one := by rintro _ _ _ _ ⟨a1, c1, rfl, h0⟩ u hu; simp at hu; rcases hu with rfl | rfl <;> rfl
  mono := by rintro _ _ _ _ _ _ m ⟨a1, c1, rfl, h0⟩; exact ⟨a1, c1, rfl, h0.m0 m⟩
theorem Api_Formula_f0 {w : World} {χ : Nat → Nat} {cs : List Value} {x : Api_Formula} (h : tApi_Formula.R w χ cs x) : tI.R w χ ((cs.drop 0).take tI.n) x.Vars := by obtain ⟨a1, c1, rfl, h0⟩ := h; rfl
theorem Api_Formula_f1 {w : World} {χ : Nat → Nat} {cs : List Value} {x : Api_Formula} (h : tApi_Formula.R w χ cs x) : (tSlice (tSlice tI)).R w χ ((cs.drop 1).take (tSlice (tSlice tI)).n) x.Clauses := by obtain ⟨a1, c1, rfl, h0⟩ := h; exact ⟨a1, c1, rfl, h0⟩
end Go.Proofs.Ytlpcjbjlgeaapaa
