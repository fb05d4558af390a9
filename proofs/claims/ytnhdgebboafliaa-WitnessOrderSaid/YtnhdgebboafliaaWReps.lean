/- How the types lie in memory. No condition. -/
import Derived.Test.YtnhdgebboafliaaWTypes
set_option linter.all false
namespace Go.Proofs.Ytnhdgebboafliaa
open Go Go.Sv
def tApi_Row : TRep Api_Row where
  n := 4
  bytes := 32
  R := fun w χ cs x => cs = [.int .i64 x.State, .int .i64 x.Kind, .int .i64 x.Next, .int .i64 x.Result]
  pos := by decide
  len := by rintro _ _ _ _ rfl; rfl
  one := by rintro _ _ _ _ rfl u hu; simp at hu; rcases hu with rfl | rfl | rfl | rfl <;> rfl
  mono := by exact fun _ h => h
theorem Api_Row_f0 {w : World} {χ : Nat → Nat} {cs : List Value} {x : Api_Row} (h : tApi_Row.R w χ cs x) : tI.R w χ ((cs.drop 0).take tI.n) x.State := by cases h; rfl
theorem Api_Row_f1 {w : World} {χ : Nat → Nat} {cs : List Value} {x : Api_Row} (h : tApi_Row.R w χ cs x) : tI.R w χ ((cs.drop 1).take tI.n) x.Kind := by cases h; rfl
theorem Api_Row_f2 {w : World} {χ : Nat → Nat} {cs : List Value} {x : Api_Row} (h : tApi_Row.R w χ cs x) : tI.R w χ ((cs.drop 2).take tI.n) x.Next := by cases h; rfl
theorem Api_Row_f3 {w : World} {χ : Nat → Nat} {cs : List Value} {x : Api_Row} (h : tApi_Row.R w χ cs x) : tI.R w χ ((cs.drop 3).take tI.n) x.Result := by cases h; rfl
def tApi_Object : TRep Api_Object where
  n := 4
  bytes := 48
  R := fun w χ cs x => ∃ (a1 : Option Addr) (c1 : Nat), cs = [.int .i64 x.States, .int .i64 x.Kinds, .int .i64 x.Init, .slice a1 x.Rows.length c1] ∧ RS tApi_Row w χ a1 x.Rows c1
  pos := by decide
  len := by rintro _ _ _ _ ⟨a1, c1, rfl, h0⟩; rfl
  one := by rintro _ _ _ _ ⟨a1, c1, rfl, h0⟩ u hu; simp at hu; rcases hu with rfl | rfl | rfl | rfl <;> rfl
  mono := by rintro _ _ _ _ _ _ m ⟨a1, c1, rfl, h0⟩; exact ⟨a1, c1, rfl, h0.m0 m⟩
theorem Api_Object_f0 {w : World} {χ : Nat → Nat} {cs : List Value} {x : Api_Object} (h : tApi_Object.R w χ cs x) : tI.R w χ ((cs.drop 0).take tI.n) x.States := by obtain ⟨a1, c1, rfl, h0⟩ := h; rfl
theorem Api_Object_f1 {w : World} {χ : Nat → Nat} {cs : List Value} {x : Api_Object} (h : tApi_Object.R w χ cs x) : tI.R w χ ((cs.drop 1).take tI.n) x.Kinds := by obtain ⟨a1, c1, rfl, h0⟩ := h; rfl
theorem Api_Object_f2 {w : World} {χ : Nat → Nat} {cs : List Value} {x : Api_Object} (h : tApi_Object.R w χ cs x) : tI.R w χ ((cs.drop 2).take tI.n) x.Init := by obtain ⟨a1, c1, rfl, h0⟩ := h; rfl
theorem Api_Object_f3 {w : World} {χ : Nat → Nat} {cs : List Value} {x : Api_Object} (h : tApi_Object.R w χ cs x) : (tSlice tApi_Row).R w χ ((cs.drop 3).take (tSlice tApi_Row).n) x.Rows := by obtain ⟨a1, c1, rfl, h0⟩ := h; exact ⟨a1, c1, rfl, h0⟩
def tApi_Oper : TRep Api_Oper where
  n := 5
  bytes := 40
  R := fun w χ cs x => cs = [.int .i64 x.Prc, .int .i64 x.Kind, .int .i64 x.Start, .int .i64 x.End, .int .i64 x.Result]
  pos := by decide
  len := by rintro _ _ _ _ rfl; rfl
  one := by rintro _ _ _ _ rfl u hu; simp at hu; rcases hu with rfl | rfl | rfl | rfl | rfl <;> rfl
  mono := by exact fun _ h => h
theorem Api_Oper_f0 {w : World} {χ : Nat → Nat} {cs : List Value} {x : Api_Oper} (h : tApi_Oper.R w χ cs x) : tI.R w χ ((cs.drop 0).take tI.n) x.Prc := by cases h; rfl
theorem Api_Oper_f1 {w : World} {χ : Nat → Nat} {cs : List Value} {x : Api_Oper} (h : tApi_Oper.R w χ cs x) : tI.R w χ ((cs.drop 1).take tI.n) x.Kind := by cases h; rfl
theorem Api_Oper_f2 {w : World} {χ : Nat → Nat} {cs : List Value} {x : Api_Oper} (h : tApi_Oper.R w χ cs x) : tI.R w χ ((cs.drop 2).take tI.n) x.Start := by cases h; rfl
theorem Api_Oper_f3 {w : World} {χ : Nat → Nat} {cs : List Value} {x : Api_Oper} (h : tApi_Oper.R w χ cs x) : tI.R w χ ((cs.drop 3).take tI.n) x.End := by cases h; rfl
theorem Api_Oper_f4 {w : World} {χ : Nat → Nat} {cs : List Value} {x : Api_Oper} (h : tApi_Oper.R w χ cs x) : tI.R w χ ((cs.drop 4).take tI.n) x.Result := by cases h; rfl
def tApi_Pick : TRep Api_Pick where
  n := 2
  bytes := 16
  R := fun w χ cs x => cs = [.int .i64 x.Oper, .int .i64 x.Result]
  pos := by decide
  len := by rintro _ _ _ _ rfl; rfl
  one := by rintro _ _ _ _ rfl u hu; simp at hu; rcases hu with rfl | rfl <;> rfl
  mono := by exact fun _ h => h
theorem Api_Pick_f0 {w : World} {χ : Nat → Nat} {cs : List Value} {x : Api_Pick} (h : tApi_Pick.R w χ cs x) : tI.R w χ ((cs.drop 0).take tI.n) x.Oper := by cases h; rfl
theorem Api_Pick_f1 {w : World} {χ : Nat → Nat} {cs : List Value} {x : Api_Pick} (h : tApi_Pick.R w χ cs x) : tI.R w χ ((cs.drop 1).take tI.n) x.Result := by cases h; rfl
def tRun_table : TRep Run_table where
  n := 4
  bytes := 48
  R := fun w χ cs x => ∃ (a1 : Option Addr) (c1 : Nat), cs = [.int .i64 x.o.States, .int .i64 x.o.Kinds, .int .i64 x.o.Init, .slice a1 x.o.Rows.length c1] ∧ RS tApi_Row w χ a1 x.o.Rows c1
  pos := by decide
  len := by rintro _ _ _ _ ⟨a1, c1, rfl, h0⟩; rfl
  one := by rintro _ _ _ _ ⟨a1, c1, rfl, h0⟩ u hu; simp at hu; rcases hu with rfl | rfl | rfl | rfl <;> rfl
  mono := by rintro _ _ _ _ _ _ m ⟨a1, c1, rfl, h0⟩; exact ⟨a1, c1, rfl, h0.m0 m⟩
theorem Run_table_f0 {w : World} {χ : Nat → Nat} {cs : List Value} {x : Run_table} (h : tRun_table.R w χ cs x) : tApi_Object.R w χ ((cs.drop 0).take tApi_Object.n) x.o := by obtain ⟨a1, c1, rfl, h0⟩ := h; exact ⟨a1, c1, rfl, h0⟩
end Go.Proofs.Ytnhdgebboafliaa
