/- How the types lie in memory. -/
import Derived.Test.YteahldlmkheleaaLTypes
set_option linter.all false
namespace Go.Proofs.Yteahldlmkheleaa
open Go Go.Sv
def aw : br aS where
  n := 4
  bytes := 32
  R := fun w χ cs x => cs = [.int .i64 x.State, .int .i64 x.Kind, .int .i64 x.Next, .int .i64 x.Result]
  pos := by decide
  len := by rintro _ _ _ _ rfl; rfl
  one := by rintro _ _ _ _ rfl u hu; simp at hu; rcases hu with rfl | rfl | rfl | rfl <;> rfl
  mono := by exact fun _ h => h
theorem kA {w : World} {χ : Nat → Nat} {cs : List Value} {x : aS} (h : aw.R w χ cs x) : tI.R w χ ((cs.drop 0).take tI.n) x.State := by cases h; rfl
theorem mY {w : World} {χ : Nat → Nat} {cs : List Value} {x : aS} (h : aw.R w χ cs x) : tI.R w χ ((cs.drop 1).take tI.n) x.Kind := by cases h; rfl
theorem mX {w : World} {χ : Nat → Nat} {cs : List Value} {x : aS} (h : aw.R w χ cs x) : tI.R w χ ((cs.drop 2).take tI.n) x.Next := by cases h; rfl
theorem mW {w : World} {χ : Nat → Nat} {cs : List Value} {x : aS} (h : aw.R w χ cs x) : tI.R w χ ((cs.drop 3).take tI.n) x.Result := by cases h; rfl
def aE : br ai where
  n := 4
  bytes := 48
  R := fun w χ cs x => ∃ (a1 : Option Addr) (c1 : Nat), cs = [.int .i64 x.ao, .int .i64 x.av, .int .i64 x.aC, .slice a1 x.Rows.length c1] ∧ RS aw w χ a1 x.Rows c1
  pos := by decide
  len := by rintro _ _ _ _ ⟨a1, c1, rfl, h0⟩; rfl
  one := by rintro _ _ _ _ ⟨a1, c1, rfl, h0⟩ u hu; simp at hu; rcases hu with rfl | rfl | rfl | rfl <;> rfl
  mono := by rintro _ _ _ _ _ _ m ⟨a1, c1, rfl, h0⟩; exact ⟨a1, c1, rfl, h0.m0 m⟩
theorem hX {w : World} {χ : Nat → Nat} {cs : List Value} {x : ai} (h : aE.R w χ cs x) : tI.R w χ ((cs.drop 1).take tI.n) x.av := by obtain ⟨a1, c1, rfl, h0⟩ := h; rfl
def aq : br aa where
  n := 5
  bytes := 40
  R := fun w χ cs x => cs = [.int .i64 x.ab, .int .i64 x.Kind, .int .i64 x.aA, .int .i64 x.End, .int .i64 x.Result]
  pos := by decide
  len := by rintro _ _ _ _ rfl; rfl
  one := by rintro _ _ _ _ rfl u hu; simp at hu; rcases hu with rfl | rfl | rfl | rfl | rfl <;> rfl
  mono := by exact fun _ h => h
theorem jz {w : World} {χ : Nat → Nat} {cs : List Value} {x : aa} (h : aq.R w χ cs x) : tI.R w χ ((cs.drop 1).take tI.n) x.Kind := by cases h; rfl
theorem jy {w : World} {χ : Nat → Nat} {cs : List Value} {x : aa} (h : aq.R w χ cs x) : tI.R w χ ((cs.drop 2).take tI.n) x.aA := by cases h; rfl
theorem mB {w : World} {χ : Nat → Nat} {cs : List Value} {x : aa} (h : aq.R w χ cs x) : tI.R w χ ((cs.drop 3).take tI.n) x.End := by cases h; rfl
theorem mA {w : World} {χ : Nat → Nat} {cs : List Value} {x : aa} (h : aq.R w χ cs x) : tI.R w χ ((cs.drop 4).take tI.n) x.Result := by cases h; rfl
def au : br ah where
  n := 2
  bytes := 16
  R := fun w χ cs x => cs = [.int .i64 x.Oper, .int .i64 x.Result]
  pos := by decide
  len := by rintro _ _ _ _ rfl; rfl
  one := by rintro _ _ _ _ rfl u hu; simp at hu; rcases hu with rfl | rfl <;> rfl
  mono := by exact fun _ h => h
theorem mz {w : World} {χ : Nat → Nat} {cs : List Value} {x : ah} (h : au.R w χ cs x) : tI.R w χ ((cs.drop 0).take tI.n) x.Oper := by cases h; rfl
def az : br al where
  n := 3
  bytes := 24
  R := fun w χ cs x => cs = [.int .i64 x.aY, .int .i64 x.ab, .int .i64 x.N]
  pos := by decide
  len := by rintro _ _ _ _ rfl; rfl
  one := by rintro _ _ _ _ rfl u hu; simp at hu; rcases hu with rfl | rfl | rfl <;> rfl
  mono := by exact fun _ h => h
theorem iQ {w : World} {χ : Nat → Nat} {cs : List Value} {x : al} (h : az.R w χ cs x) : tI.R w χ ((cs.drop 0).take tI.n) x.aY := by cases h; rfl
theorem eI {w : World} {χ : Nat → Nat} {cs : List Value} {x : al} (h : az.R w χ cs x) : tI.R w χ ((cs.drop 1).take tI.n) x.ab := by cases h; rfl
theorem iP {w : World} {χ : Nat → Nat} {cs : List Value} {x : al} (h : az.R w χ cs x) : tI.R w χ ((cs.drop 2).take tI.n) x.N := by cases h; rfl
def aK : br aR where
  n := 4
  bytes := 32
  R := fun w χ cs x => cs = [.int .i64 x.ar, .int .i64 x.aH.aY, .int .i64 x.aH.ab, .int .i64 x.aH.N]
  pos := by decide
  len := by rintro _ _ _ _ rfl; rfl
  one := by rintro _ _ _ _ rfl u hu; simp at hu; rcases hu with rfl | rfl | rfl | rfl <;> rfl
  mono := by exact fun _ h => h
theorem fU {w : World} {χ : Nat → Nat} {cs : List Value} {x : aR} (h : aK.R w χ cs x) : tI.R w χ ((cs.drop 0).take tI.n) x.ar := by cases h; rfl
theorem ky {w : World} {χ : Nat → Nat} {cs : List Value} {x : aR} (h : aK.R w χ cs x) : az.R w χ ((cs.drop 1).take az.n) x.aH := by cases h; rfl
def jN : br ak where
  n := 2
  bytes := 48
  R := fun w χ cs x => ∃ (a1 : Option Addr) (c1 : Nat) (a2 : Option Addr) (c2 : Nat), cs = [.slice a1 x.ae.length c1, .slice a2 x.aj.length c2] ∧ RS aE w χ a1 x.ae c1 ∧ RS aK w χ a2 x.aj c2
  pos := by decide
  len := by rintro _ _ _ _ ⟨a1, c1, a2, c2, rfl, h0, h1⟩; rfl
  one := by rintro _ _ _ _ ⟨a1, c1, a2, c2, rfl, h0, h1⟩ u hu; simp at hu; rcases hu with rfl | rfl <;> rfl
  mono := by rintro _ _ _ _ _ _ m ⟨a1, c1, a2, c2, rfl, h0, h1⟩; exact ⟨a1, c1, a2, c2, rfl, h0.m0 m, h1.m0 m⟩
def bj : br aD where
  n := 4
  bytes := 32
  R := fun w χ cs x => cs = [.int .i64 x.ar, .int .i64 x.aH.aY, .int .i64 x.aH.ab, .int .i64 x.aH.N]
  pos := by decide
  len := by rintro _ _ _ _ rfl; rfl
  one := by rintro _ _ _ _ rfl u hu; simp at hu; rcases hu with rfl | rfl | rfl | rfl <;> rfl
  mono := by exact fun _ h => h
theorem fT {w : World} {χ : Nat → Nat} {cs : List Value} {x : aD} (h : bj.R w χ cs x) : tI.R w χ ((cs.drop 0).take tI.n) x.ar := by cases h; rfl
theorem fb {w : World} {χ : Nat → Nat} {cs : List Value} {x : aD} (h : bj.R w χ cs x) : az.R w χ ((cs.drop 1).take az.n) x.aH := by cases h; rfl
end Go.Proofs.Yteahldlmkheleaa
