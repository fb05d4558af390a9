import Derived.Test.YteahldlmkheleaaGreatLTypes
set_option linter.all false
namespace Go.Proofs.YteahldlmkheleaaGreat
open Go Go.Sv
def ay:bR a9 where
  n:=4
  bytes:=32
  R:=fun w χ cs x=>cs=[.int .i64 x.State,.int .i64 x.Kind,.int .i64 x.Next,.int .i64 x.Result]
  pos:=by decide
  len:=by rintro _ _ _ _ rfl; rfl
  one:=by rintro _ _ _ _ rfl u hu; simp at hu; rcases hu with rfl | rfl | rfl | rfl <;> rfl
  mono:=by exact fun _ h=>h
theorem nh {w:World} {χ:Nat→Nat} {cs:List Value} {x:a9} (h:ay.R w χ cs x):tI.R w χ ((cs.drop 0).take tI.n) x.State:=by cases h; rfl
theorem qU {w:World} {χ:Nat→Nat} {cs:List Value} {x:a9} (h:ay.R w χ cs x):tI.R w χ ((cs.drop 1).take tI.n) x.Kind:=by cases h; rfl
theorem qT {w:World} {χ:Nat→Nat} {cs:List Value} {x:a9} (h:ay.R w χ cs x):tI.R w χ ((cs.drop 2).take tI.n) x.Next:=by cases h; rfl
theorem qS {w:World} {χ:Nat→Nat} {cs:List Value} {x:a9} (h:ay.R w χ cs x):tI.R w χ ((cs.drop 3).take tI.n) x.Result:=by cases h; rfl
def az:bR al where
  n:=4
  bytes:=48
  R:=fun w χ cs x=>∃ (a1:Option Addr) (c1:Nat),cs=[.int .i64 x.aq,.int .i64 x.ax,.int .i64 x.aE,.slice a1 x.Rows.length c1]∧RS ay w χ a1 x.Rows c1
  pos:=by decide
  len:=by rintro _ _ _ _ ⟨a1,c1,rfl,h0⟩; rfl
  one:=by rintro _ _ _ _ ⟨a1,c1,rfl,h0⟩ u hu; simp at hu; rcases hu with rfl | rfl | rfl | rfl <;> rfl
  mono:=by rintro _ _ _ _ _ _ m ⟨a1,c1,rfl,h0⟩; exact ⟨a1,c1,rfl,h0.m0 m⟩
theorem mE {w:World} {χ:Nat→Nat} {cs:List Value} {x:al} (h:az.R w χ cs x):tI.R w χ ((cs.drop 1).take tI.n) x.ax:=by obtain ⟨a1,c1,rfl,h0⟩:=h; rfl
theorem re {w:World} {χ:Nat→Nat} {cs:List Value} {x:al} (h:az.R w χ cs x):tI.R w χ ((cs.drop 2).take tI.n) x.aE:=by obtain ⟨a1,c1,rfl,h0⟩:=h; rfl
def ao:bR ab where
  n:=5
  bytes:=40
  R:=fun w χ cs x=>cs=[.int .i64 x.ah,.int .i64 x.Kind,.int .i64 x.aD,.int .i64 x.End,.int .i64 x.Result]
  pos:=by decide
  len:=by rintro _ _ _ _ rfl; rfl
  one:=by rintro _ _ _ _ rfl u hu; simp at hu; rcases hu with rfl | rfl | rfl | rfl | rfl <;> rfl
  mono:=by exact fun _ h=>h
theorem lZ {w:World} {χ:Nat→Nat} {cs:List Value} {x:ab} (h:ao.R w χ cs x):tI.R w χ ((cs.drop 1).take tI.n) x.Kind:=by cases h; rfl
theorem o3 {w:World} {χ:Nat→Nat} {cs:List Value} {x:ab} (h:ao.R w χ cs x):tI.R w χ ((cs.drop 2).take tI.n) x.aD:=by cases h; rfl
theorem lY {w:World} {χ:Nat→Nat} {cs:List Value} {x:ab} (h:ao.R w χ cs x):tI.R w χ ((cs.drop 3).take tI.n) x.End:=by cases h; rfl
theorem oZ {w:World} {χ:Nat→Nat} {cs:List Value} {x:ab} (h:ao.R w χ cs x):tI.R w χ ((cs.drop 4).take tI.n) x.Result:=by cases h; rfl
def ar:bR aa where
  n:=2
  bytes:=16
  R:=fun w χ cs x=>cs=[.int .i64 x.Oper,.int .i64 x.Result]
  pos:=by decide
  len:=by rintro _ _ _ _ rfl; rfl
  one:=by rintro _ _ _ _ rfl u hu; simp at hu; rcases hu with rfl | rfl <;> rfl
  mono:=by exact fun _ h=>h
theorem fw {w:World} {χ:Nat→Nat} {cs:List Value} {x:aa} (h:ar.R w χ cs x):tI.R w χ ((cs.drop 0).take tI.n) x.Oper:=by cases h; rfl
theorem vB {w:World} {χ:Nat→Nat} {cs:List Value} {x:aa} (h:ar.R w χ cs x):tI.R w χ ((cs.drop 1).take tI.n) x.Result:=by cases h; rfl
def aO:bR au where
  n:=3
  bytes:=24
  R:=fun w χ cs x=>cs=[.int .i64 x.bh,.int .i64 x.ah,.int .i64 x.N]
  pos:=by decide
  len:=by rintro _ _ _ _ rfl; rfl
  one:=by rintro _ _ _ _ rfl u hu; simp at hu; rcases hu with rfl | rfl | rfl <;> rfl
  mono:=by exact fun _ h=>h
theorem lk {w:World} {χ:Nat→Nat} {cs:List Value} {x:au} (h:aO.R w χ cs x):tI.R w χ ((cs.drop 0).take tI.n) x.bh:=by cases h; rfl
theorem gV {w:World} {χ:Nat→Nat} {cs:List Value} {x:au} (h:aO.R w χ cs x):tI.R w χ ((cs.drop 1).take tI.n) x.ah:=by cases h; rfl
theorem n4 {w:World} {χ:Nat→Nat} {cs:List Value} {x:au} (h:aO.R w χ cs x):tI.R w χ ((cs.drop 2).take tI.n) x.N:=by cases h; rfl
def aI:bR aR where
  n:=4
  bytes:=32
  R:=fun w χ cs x=>cs=[.int .i64 x.aw,.int .i64 x.aK.bh,.int .i64 x.aK.ah,.int .i64 x.aK.N]
  pos:=by decide
  len:=by rintro _ _ _ _ rfl; rfl
  one:=by rintro _ _ _ _ rfl u hu; simp at hu; rcases hu with rfl | rfl | rfl | rfl <;> rfl
  mono:=by exact fun _ h=>h
theorem jR {w:World} {χ:Nat→Nat} {cs:List Value} {x:aR} (h:aI.R w χ cs x):tI.R w χ ((cs.drop 0).take tI.n) x.aw:=by cases h; rfl
theorem lX {w:World} {χ:Nat→Nat} {cs:List Value} {x:aR} (h:aI.R w χ cs x):aO.R w χ ((cs.drop 1).take aO.n) x.aK:=by cases h; rfl
def pF:bR aj where
  n:=2
  bytes:=48
  R:=fun w χ cs x=>∃ (a1:Option Addr) (c1:Nat) (a2:Option Addr) (c2:Nat),cs=[.slice a1 x.ae.length c1,.slice a2 x.ak.length c2]∧RS az w χ a1 x.ae c1∧RS aI w χ a2 x.ak c2
  pos:=by decide
  len:=by rintro _ _ _ _ ⟨a1,c1,a2,c2,rfl,h0,h1⟩; rfl
  one:=by rintro _ _ _ _ ⟨a1,c1,a2,c2,rfl,h0,h1⟩ u hu; simp at hu; rcases hu with rfl | rfl <;> rfl
  mono:=by rintro _ _ _ _ _ _ m ⟨a1,c1,a2,c2,rfl,h0,h1⟩; exact ⟨a1,c1,a2,c2,rfl,h0.m0 m,h1.m0 m⟩
def bJ:bR aH where
  n:=4
  bytes:=32
  R:=fun w χ cs x=>cs=[.int .i64 x.aw,.int .i64 x.aK.bh,.int .i64 x.aK.ah,.int .i64 x.aK.N]
  pos:=by decide
  len:=by rintro _ _ _ _ rfl; rfl
  one:=by rintro _ _ _ _ rfl u hu; simp at hu; rcases hu with rfl | rfl | rfl | rfl <;> rfl
  mono:=by exact fun _ h=>h
theorem lW {w:World} {χ:Nat→Nat} {cs:List Value} {x:aH} (h:bJ.R w χ cs x):tI.R w χ ((cs.drop 0).take tI.n) x.aw:=by cases h; rfl
theorem jQ {w:World} {χ:Nat→Nat} {cs:List Value} {x:aH} (h:bJ.R w χ cs x):aO.R w χ ((cs.drop 1).take aO.n) x.aK:=by cases h; rfl
end Go.Proofs.YteahldlmkheleaaGreat
