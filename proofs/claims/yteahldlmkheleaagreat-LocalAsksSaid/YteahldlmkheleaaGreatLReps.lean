/- Lemmas. -/
import Derived.Test.YteahldlmkheleaaGreatLTypes
set_option linter.all false
namespace Go.Proofs.YteahldlmkheleaaGreat
open Go Go.Sv
def ay:bS ba where
  n:=4
  bytes:=32
  R:=fun w χ cs x=>cs=[.int .i64 x.State,.int .i64 x.Kind,.int .i64 x.Next,.int .i64 x.Result]
  pos:=by decide
  len:=by rintro _ _ _ _ rfl; rfl
  one:=by rintro _ _ _ _ rfl u hu; simp at hu; rcases hu with rfl | rfl | rfl | rfl <;> rfl
  mono:=by exact fun _ h=>h
theorem nD {w:World} {χ:Nat→Nat} {cs:List Value} {x:ba} (h:ay.R w χ cs x):tI.R w χ ((cs.drop 0).take tI.n) x.State:=by cases h; rfl
theorem rn {w:World} {χ:Nat→Nat} {cs:List Value} {x:ba} (h:ay.R w χ cs x):tI.R w χ ((cs.drop 1).take tI.n) x.Kind:=by cases h; rfl
theorem rm {w:World} {χ:Nat→Nat} {cs:List Value} {x:ba} (h:ay.R w χ cs x):tI.R w χ ((cs.drop 2).take tI.n) x.Next:=by cases h; rfl
theorem rl {w:World} {χ:Nat→Nat} {cs:List Value} {x:ba} (h:ay.R w χ cs x):tI.R w χ ((cs.drop 3).take tI.n) x.Result:=by cases h; rfl
def aA:bS ae where
  n:=4
  bytes:=48
  R:=fun w χ cs x=>∃ (a1:Option Addr) (c1:Nat),cs=[.int .i64 x.ar,.int .i64 x.aw,.int .i64 x.aC,.slice a1 x.Rows.length c1]∧RS ay w χ a1 x.Rows c1
  pos:=by decide
  len:=by rintro _ _ _ _ ⟨a1,c1,rfl,h0⟩; rfl
  one:=by rintro _ _ _ _ ⟨a1,c1,rfl,h0⟩ u hu; simp at hu; rcases hu with rfl | rfl | rfl | rfl <;> rfl
  mono:=by rintro _ _ _ _ _ _ m ⟨a1,c1,rfl,h0⟩; exact ⟨a1,c1,rfl,h0.m0 m⟩
theorem m6 {w:World} {χ:Nat→Nat} {cs:List Value} {x:ae} (h:aA.R w χ cs x):tI.R w χ ((cs.drop 1).take tI.n) x.aw:=by obtain ⟨a1,c1,rfl,h0⟩:=h; rfl
theorem rK {w:World} {χ:Nat→Nat} {cs:List Value} {x:ae} (h:aA.R w χ cs x):tI.R w χ ((cs.drop 2).take tI.n) x.aC:=by obtain ⟨a1,c1,rfl,h0⟩:=h; rfl
def ao:bS ab where
  n:=5
  bytes:=40
  R:=fun w χ cs x=>cs=[.int .i64 x.aj,.int .i64 x.Kind,.int .i64 x.aE,.int .i64 x.End,.int .i64 x.Result]
  pos:=by decide
  len:=by rintro _ _ _ _ rfl; rfl
  one:=by rintro _ _ _ _ rfl u hu; simp at hu; rcases hu with rfl | rfl | rfl | rfl | rfl <;> rfl
  mono:=by exact fun _ h=>h
theorem kP {w:World} {χ:Nat→Nat} {cs:List Value} {x:ab} (h:ao.R w χ cs x):tI.R w χ ((cs.drop 1).take tI.n) x.Kind:=by cases h; rfl
theorem pq {w:World} {χ:Nat→Nat} {cs:List Value} {x:ab} (h:ao.R w χ cs x):tI.R w χ ((cs.drop 2).take tI.n) x.aE:=by cases h; rfl
theorem kO {w:World} {χ:Nat→Nat} {cs:List Value} {x:ab} (h:ao.R w χ cs x):tI.R w χ ((cs.drop 3).take tI.n) x.End:=by cases h; rfl
theorem po {w:World} {χ:Nat→Nat} {cs:List Value} {x:ab} (h:ao.R w χ cs x):tI.R w χ ((cs.drop 4).take tI.n) x.Result:=by cases h; rfl
def aq:bS aa where
  n:=2
  bytes:=16
  R:=fun w χ cs x=>cs=[.int .i64 x.Oper,.int .i64 x.Result]
  pos:=by decide
  len:=by rintro _ _ _ _ rfl; rfl
  one:=by rintro _ _ _ _ rfl u hu; simp at hu; rcases hu with rfl | rfl <;> rfl
  mono:=by exact fun _ h=>h
theorem gL {w:World} {χ:Nat→Nat} {cs:List Value} {x:aa} (h:aq.R w χ cs x):tI.R w χ ((cs.drop 0).take tI.n) x.Oper:=by cases h; rfl
def aM:bS au where
  n:=3
  bytes:=24
  R:=fun w χ cs x=>cs=[.int .i64 x.bh,.int .i64 x.aj,.int .i64 x.N]
  pos:=by decide
  len:=by rintro _ _ _ _ rfl; rfl
  one:=by rintro _ _ _ _ rfl u hu; simp at hu; rcases hu with rfl | rfl | rfl <;> rfl
  mono:=by exact fun _ h=>h
theorem lU {w:World} {χ:Nat→Nat} {cs:List Value} {x:au} (h:aM.R w χ cs x):tI.R w χ ((cs.drop 0).take tI.n) x.bh:=by cases h; rfl
theorem gV {w:World} {χ:Nat→Nat} {cs:List Value} {x:au} (h:aM.R w χ cs x):tI.R w χ ((cs.drop 1).take tI.n) x.aj:=by cases h; rfl
theorem oC {w:World} {χ:Nat→Nat} {cs:List Value} {x:au} (h:aM.R w χ cs x):tI.R w χ ((cs.drop 2).take tI.n) x.N:=by cases h; rfl
def aP:bS aR where
  n:=4
  bytes:=32
  R:=fun w χ cs x=>cs=[.int .i64 x.ax,.int .i64 x.aI.bh,.int .i64 x.aI.aj,.int .i64 x.aI.N]
  pos:=by decide
  len:=by rintro _ _ _ _ rfl; rfl
  one:=by rintro _ _ _ _ rfl u hu; simp at hu; rcases hu with rfl | rfl | rfl | rfl <;> rfl
  mono:=by exact fun _ h=>h
theorem ku {w:World} {χ:Nat→Nat} {cs:List Value} {x:aR} (h:aP.R w χ cs x):tI.R w χ ((cs.drop 0).take tI.n) x.ax:=by cases h; rfl
theorem mw {w:World} {χ:Nat→Nat} {cs:List Value} {x:aR} (h:aP.R w χ cs x):aM.R w χ ((cs.drop 1).take aM.n) x.aI:=by cases h; rfl
def p9:bS ak where
  n:=2
  bytes:=48
  R:=fun w χ cs x=>∃ (a1:Option Addr) (c1:Nat) (a2:Option Addr) (c2:Nat),cs=[.slice a1 x.ah.length c1,.slice a2 x.al.length c2]∧RS aA w χ a1 x.ah c1∧RS aP w χ a2 x.al c2
  pos:=by decide
  len:=by rintro _ _ _ _ ⟨a1,c1,a2,c2,rfl,h0,h1⟩; rfl
  one:=by rintro _ _ _ _ ⟨a1,c1,a2,c2,rfl,h0,h1⟩ u hu; simp at hu; rcases hu with rfl | rfl <;> rfl
  mono:=by rintro _ _ _ _ _ _ m ⟨a1,c1,a2,c2,rfl,h0,h1⟩; exact ⟨a1,c1,a2,c2,rfl,h0.m0 m,h1.m0 m⟩
def br:bS az where
  n:=4
  bytes:=32
  R:=fun w χ cs x=>cs=[.int .i64 x.ax,.int .i64 x.aI.bh,.int .i64 x.aI.aj,.int .i64 x.aI.N]
  pos:=by decide
  len:=by rintro _ _ _ _ rfl; rfl
  one:=by rintro _ _ _ _ rfl u hu; simp at hu; rcases hu with rfl | rfl | rfl | rfl <;> rfl
  mono:=by exact fun _ h=>h
theorem kp {w:World} {χ:Nat→Nat} {cs:List Value} {x:az} (h:br.R w χ cs x):tI.R w χ ((cs.drop 0).take tI.n) x.ax:=by cases h; rfl
theorem iH {w:World} {χ:Nat→Nat} {cs:List Value} {x:az} (h:br.R w χ cs x):aM.R w χ ((cs.drop 1).take aM.n) x.aI:=by cases h; rfl
end Go.Proofs.YteahldlmkheleaaGreat
