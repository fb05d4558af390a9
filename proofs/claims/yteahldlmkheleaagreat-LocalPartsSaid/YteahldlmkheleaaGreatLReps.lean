import Derived.Test.YteahldlmkheleaaGreatLTypes
set_option linter.all false
namespace Go.Proofs.YteahldlmkheleaaGreat
open Go Go.Sv
def az:bQ a8 where
  n:=4
  bytes:=32
  R:=fun w χ cs x=>cs=[.int .i64 x.State,.int .i64 x.Kind,.int .i64 x.Next,.int .i64 x.Result]
  pos:=by decide
  len:=by rintro _ _ _ _ rfl; rfl
  one:=by rintro _ _ _ _ rfl u hu; simp at hu; rcases hu with rfl | rfl | rfl | rfl <;> rfl
  mono:=by exact fun _ h=>h
theorem mZ {w:World} {χ:Nat→Nat} {cs:List Value} {x:a8} (h:az.R w χ cs x):tI.R w χ ((cs.drop 0).take tI.n) x.State:=by cases h; rfl
theorem qO {w:World} {χ:Nat→Nat} {cs:List Value} {x:a8} (h:az.R w χ cs x):tI.R w χ ((cs.drop 1).take tI.n) x.Kind:=by cases h; rfl
theorem qN {w:World} {χ:Nat→Nat} {cs:List Value} {x:a8} (h:az.R w χ cs x):tI.R w χ ((cs.drop 2).take tI.n) x.Next:=by cases h; rfl
theorem qM {w:World} {χ:Nat→Nat} {cs:List Value} {x:a8} (h:az.R w χ cs x):tI.R w χ ((cs.drop 3).take tI.n) x.Result:=by cases h; rfl
def ay:bQ ah where
  n:=4
  bytes:=48
  R:=fun w χ cs x=>∃ (a1:Option Addr) (c1:Nat),cs=[.int .i64 x.ar,.int .i64 x.aw,.int .i64 x.aE,.slice a1 x.Rows.length c1]∧RS az w χ a1 x.Rows c1
  pos:=by decide
  len:=by rintro _ _ _ _ ⟨a1,c1,rfl,h0⟩; rfl
  one:=by rintro _ _ _ _ ⟨a1,c1,rfl,h0⟩ u hu; simp at hu; rcases hu with rfl | rfl | rfl | rfl <;> rfl
  mono:=by rintro _ _ _ _ _ _ m ⟨a1,c1,rfl,h0⟩; exact ⟨a1,c1,rfl,h0.m0 m⟩
theorem mA {w:World} {χ:Nat→Nat} {cs:List Value} {x:ah} (h:ay.R w χ cs x):tI.R w χ ((cs.drop 1).take tI.n) x.aw:=by obtain ⟨a1,c1,rfl,h0⟩:=h; rfl
theorem mz {w:World} {χ:Nat→Nat} {cs:List Value} {x:ah} (h:ay.R w χ cs x):tI.R w χ ((cs.drop 2).take tI.n) x.aE:=by obtain ⟨a1,c1,rfl,h0⟩:=h; rfl
def aq:bQ ab where
  n:=5
  bytes:=40
  R:=fun w χ cs x=>cs=[.int .i64 x.aj,.int .i64 x.Kind,.int .i64 x.aF,.int .i64 x.End,.int .i64 x.Result]
  pos:=by decide
  len:=by rintro _ _ _ _ rfl; rfl
  one:=by rintro _ _ _ _ rfl u hu; simp at hu; rcases hu with rfl | rfl | rfl | rfl | rfl <;> rfl
  mono:=by exact fun _ h=>h
theorem kf {w:World} {χ:Nat→Nat} {cs:List Value} {x:ab} (h:aq.R w χ cs x):tI.R w χ ((cs.drop 1).take tI.n) x.Kind:=by cases h; rfl
theorem oT {w:World} {χ:Nat→Nat} {cs:List Value} {x:ab} (h:aq.R w χ cs x):tI.R w χ ((cs.drop 2).take tI.n) x.aF:=by cases h; rfl
theorem lV {w:World} {χ:Nat→Nat} {cs:List Value} {x:ab} (h:aq.R w χ cs x):tI.R w χ ((cs.drop 3).take tI.n) x.End:=by cases h; rfl
theorem oS {w:World} {χ:Nat→Nat} {cs:List Value} {x:ab} (h:aq.R w χ cs x):tI.R w χ ((cs.drop 4).take tI.n) x.Result:=by cases h; rfl
def au:bQ aa where
  n:=2
  bytes:=16
  R:=fun w χ cs x=>cs=[.int .i64 x.Oper,.int .i64 x.Result]
  pos:=by decide
  len:=by rintro _ _ _ _ rfl; rfl
  one:=by rintro _ _ _ _ rfl u hu; simp at hu; rcases hu with rfl | rfl <;> rfl
  mono:=by exact fun _ h=>h
theorem gF {w:World} {χ:Nat→Nat} {cs:List Value} {x:aa} (h:au.R w χ cs x):tI.R w χ ((cs.drop 0).take tI.n) x.Oper:=by cases h; rfl
def aO:bQ av where
  n:=3
  bytes:=24
  R:=fun w χ cs x=>cs=[.int .i64 x.bk,.int .i64 x.aj,.int .i64 x.N]
  pos:=by decide
  len:=by rintro _ _ _ _ rfl; rfl
  one:=by rintro _ _ _ _ rfl u hu; simp at hu; rcases hu with rfl | rfl | rfl <;> rfl
  mono:=by exact fun _ h=>h
theorem lj {w:World} {χ:Nat→Nat} {cs:List Value} {x:av} (h:aO.R w χ cs x):tI.R w χ ((cs.drop 0).take tI.n) x.bk:=by cases h; rfl
theorem gR {w:World} {χ:Nat→Nat} {cs:List Value} {x:av} (h:aO.R w χ cs x):tI.R w χ ((cs.drop 1).take tI.n) x.aj:=by cases h; rfl
theorem nR {w:World} {χ:Nat→Nat} {cs:List Value} {x:av} (h:aO.R w χ cs x):tI.R w χ ((cs.drop 2).take tI.n) x.N:=by cases h; rfl
def aM:bQ ba where
  n:=4
  bytes:=32
  R:=fun w χ cs x=>cs=[.int .i64 x.ax,.int .i64 x.aS.bk,.int .i64 x.aS.aj,.int .i64 x.aS.N]
  pos:=by decide
  len:=by rintro _ _ _ _ rfl; rfl
  one:=by rintro _ _ _ _ rfl u hu; simp at hu; rcases hu with rfl | rfl | rfl | rfl <;> rfl
  mono:=by exact fun _ h=>h
theorem jT {w:World} {χ:Nat→Nat} {cs:List Value} {x:ba} (h:aM.R w χ cs x):tI.R w χ ((cs.drop 0).take tI.n) x.ax:=by cases h; rfl
theorem lU {w:World} {χ:Nat→Nat} {cs:List Value} {x:ba} (h:aM.R w χ cs x):aO.R w χ ((cs.drop 1).take aO.n) x.aS:=by cases h; rfl
def pF:bQ ak where
  n:=2
  bytes:=48
  R:=fun w χ cs x=>∃ (a1:Option Addr) (c1:Nat) (a2:Option Addr) (c2:Nat),cs=[.slice a1 x.ae.length c1,.slice a2 x.ao.length c2]∧RS ay w χ a1 x.ae c1∧RS aM w χ a2 x.ao c2
  pos:=by decide
  len:=by rintro _ _ _ _ ⟨a1,c1,a2,c2,rfl,h0,h1⟩; rfl
  one:=by rintro _ _ _ _ ⟨a1,c1,a2,c2,rfl,h0,h1⟩ u hu; simp at hu; rcases hu with rfl | rfl <;> rfl
  mono:=by rintro _ _ _ _ _ _ m ⟨a1,c1,a2,c2,rfl,h0,h1⟩; exact ⟨a1,c1,a2,c2,rfl,h0.m0 m,h1.m0 m⟩
def bA:bQ aD where
  n:=4
  bytes:=32
  R:=fun w χ cs x=>cs=[.int .i64 x.ax,.int .i64 x.aS.bk,.int .i64 x.aS.aj,.int .i64 x.aS.N]
  pos:=by decide
  len:=by rintro _ _ _ _ rfl; rfl
  one:=by rintro _ _ _ _ rfl u hu; simp at hu; rcases hu with rfl | rfl | rfl | rfl <;> rfl
  mono:=by exact fun _ h=>h
theorem lT {w:World} {χ:Nat→Nat} {cs:List Value} {x:aD} (h:bA.R w χ cs x):tI.R w χ ((cs.drop 0).take tI.n) x.ax:=by cases h; rfl
theorem jS {w:World} {χ:Nat→Nat} {cs:List Value} {x:aD} (h:bA.R w χ cs x):aO.R w χ ((cs.drop 1).take aO.n) x.aS:=by cases h; rfl
end Go.Proofs.YteahldlmkheleaaGreat
