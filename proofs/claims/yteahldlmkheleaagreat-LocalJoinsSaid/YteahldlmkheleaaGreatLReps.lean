/- How the types lie in memory. -/
import Derived.Test.YteahldlmkheleaaGreatLTypes
set_option linter.all false
namespace Go.Proofs.YteahldlmkheleaaGreat
open Go Go.Sv
def aB:bX bc where
  n:=4
  bytes:=32
  R:=fun w χ cs x=>cs=[.int .i64 x.State,.int .i64 x.Kind,.int .i64 x.Next,.int .i64 x.Result]
  pos:=by decide
  len:=by rintro _ _ _ _ rfl; rfl
  one:=by rintro _ _ _ _ rfl u hu; simp at hu; rcases hu with rfl | rfl | rfl | rfl <;> rfl
  mono:=by exact fun _ h=>h
theorem n3 {w:World} {χ:Nat→Nat} {cs:List Value} {x:bc} (h:aB.R w χ cs x):tI.R w χ ((cs.drop 0).take tI.n) x.State:=by cases h; rfl
theorem rW {w:World} {χ:Nat→Nat} {cs:List Value} {x:bc} (h:aB.R w χ cs x):tI.R w χ ((cs.drop 1).take tI.n) x.Kind:=by cases h; rfl
theorem rV {w:World} {χ:Nat→Nat} {cs:List Value} {x:bc} (h:aB.R w χ cs x):tI.R w χ ((cs.drop 2).take tI.n) x.Next:=by cases h; rfl
theorem rU {w:World} {χ:Nat→Nat} {cs:List Value} {x:bc} (h:aB.R w χ cs x):tI.R w χ ((cs.drop 3).take tI.n) x.Result:=by cases h; rfl
def aC:bX ao where
  n:=4
  bytes:=48
  R:=fun w χ cs x=>∃ (a1:Option Addr) (c1:Nat),cs=[.int .i64 x.au,.int .i64 x.aA,.int .i64 x.aH,.slice a1 x.Rows.length c1]∧RS aB w χ a1 x.Rows c1
  pos:=by decide
  len:=by rintro _ _ _ _ ⟨a1,c1,rfl,h0⟩; rfl
  one:=by rintro _ _ _ _ ⟨a1,c1,rfl,h0⟩ u hu; simp at hu; rcases hu with rfl | rfl | rfl | rfl <;> rfl
  mono:=by rintro _ _ _ _ _ _ m ⟨a1,c1,rfl,h0⟩; exact ⟨a1,c1,rfl,h0.m0 m⟩
theorem nx {w:World} {χ:Nat→Nat} {cs:List Value} {x:ao} (h:aC.R w χ cs x):tI.R w χ ((cs.drop 1).take tI.n) x.aA:=by obtain ⟨a1,c1,rfl,h0⟩:=h; rfl
theorem sg {w:World} {χ:Nat→Nat} {cs:List Value} {x:ao} (h:aC.R w χ cs x):tI.R w χ ((cs.drop 2).take tI.n) x.aH:=by obtain ⟨a1,c1,rfl,h0⟩:=h; rfl
def ar:bX ab where
  n:=5
  bytes:=40
  R:=fun w χ cs x=>cs=[.int .i64 x.ah,.int .i64 x.Kind,.int .i64 x.aG,.int .i64 x.End,.int .i64 x.Result]
  pos:=by decide
  len:=by rintro _ _ _ _ rfl; rfl
  one:=by rintro _ _ _ _ rfl u hu; simp at hu; rcases hu with rfl | rfl | rfl | rfl | rfl <;> rfl
  mono:=by exact fun _ h=>h
theorem mK {w:World} {χ:Nat→Nat} {cs:List Value} {x:ab} (h:ar.R w χ cs x):tI.R w χ ((cs.drop 1).take tI.n) x.Kind:=by cases h; rfl
theorem pW {w:World} {χ:Nat→Nat} {cs:List Value} {x:ab} (h:ar.R w χ cs x):tI.R w χ ((cs.drop 2).take tI.n) x.aG:=by cases h; rfl
theorem mJ {w:World} {χ:Nat→Nat} {cs:List Value} {x:ab} (h:ar.R w χ cs x):tI.R w χ ((cs.drop 3).take tI.n) x.End:=by cases h; rfl
theorem pV {w:World} {χ:Nat→Nat} {cs:List Value} {x:ab} (h:ar.R w χ cs x):tI.R w χ ((cs.drop 4).take tI.n) x.Result:=by cases h; rfl
def av:bX aa where
  n:=2
  bytes:=16
  R:=fun w χ cs x=>cs=[.int .i64 x.Oper,.int .i64 x.Result]
  pos:=by decide
  len:=by rintro _ _ _ _ rfl; rfl
  one:=by rintro _ _ _ _ rfl u hu; simp at hu; rcases hu with rfl | rfl <;> rfl
  mono:=by exact fun _ h=>h
theorem fP {w:World} {χ:Nat→Nat} {cs:List Value} {x:aa} (h:av.R w χ cs x):tI.R w χ ((cs.drop 0).take tI.n) x.Oper:=by cases h; rfl
theorem wU {w:World} {χ:Nat→Nat} {cs:List Value} {x:aa} (h:av.R w χ cs x):tI.R w χ ((cs.drop 1).take tI.n) x.Result:=by cases h; rfl
def aR:bX aw where
  n:=3
  bytes:=24
  R:=fun w χ cs x=>cs=[.int .i64 x.bm,.int .i64 x.ah,.int .i64 x.N]
  pos:=by decide
  len:=by rintro _ _ _ _ rfl; rfl
  one:=by rintro _ _ _ _ rfl u hu; simp at hu; rcases hu with rfl | rfl | rfl <;> rfl
  mono:=by exact fun _ h=>h
theorem lZ {w:World} {χ:Nat→Nat} {cs:List Value} {x:aw} (h:aR.R w χ cs x):tI.R w χ ((cs.drop 0).take tI.n) x.bm:=by cases h; rfl
theorem iq {w:World} {χ:Nat→Nat} {cs:List Value} {x:aw} (h:aR.R w χ cs x):tI.R w χ ((cs.drop 1).take tI.n) x.ah:=by cases h; rfl
theorem oW {w:World} {χ:Nat→Nat} {cs:List Value} {x:aw} (h:aR.R w χ cs x):tI.R w χ ((cs.drop 2).take tI.n) x.N:=by cases h; rfl
def aL:bX aV where
  n:=4
  bytes:=32
  R:=fun w χ cs x=>cs=[.int .i64 x.az,.int .i64 x.aN.bm,.int .i64 x.aN.ah,.int .i64 x.aN.N]
  pos:=by decide
  len:=by rintro _ _ _ _ rfl; rfl
  one:=by rintro _ _ _ _ rfl u hu; simp at hu; rcases hu with rfl | rfl | rfl | rfl <;> rfl
  mono:=by exact fun _ h=>h
theorem kE {w:World} {χ:Nat→Nat} {cs:List Value} {x:aV} (h:aL.R w χ cs x):tI.R w χ ((cs.drop 0).take tI.n) x.az:=by cases h; rfl
theorem mI {w:World} {χ:Nat→Nat} {cs:List Value} {x:aV} (h:aL.R w χ cs x):aR.R w χ ((cs.drop 1).take aR.n) x.aN:=by cases h; rfl
def qv:bX ak where
  n:=2
  bytes:=48
  R:=fun w χ cs x=>∃ (a1:Option Addr) (c1:Nat) (a2:Option Addr) (c2:Nat),cs=[.slice a1 x.ae.length c1,.slice a2 x.al.length c2]∧RS aC w χ a1 x.ae c1∧RS aL w χ a2 x.al c2
  pos:=by decide
  len:=by rintro _ _ _ _ ⟨a1,c1,a2,c2,rfl,h0,h1⟩; rfl
  one:=by rintro _ _ _ _ ⟨a1,c1,a2,c2,rfl,h0,h1⟩ u hu; simp at hu; rcases hu with rfl | rfl <;> rfl
  mono:=by rintro _ _ _ _ _ _ m ⟨a1,c1,a2,c2,rfl,h0,h1⟩; exact ⟨a1,c1,a2,c2,rfl,h0.m0 m,h1.m0 m⟩
def bP:bX aK where
  n:=4
  bytes:=32
  R:=fun w χ cs x=>cs=[.int .i64 x.az,.int .i64 x.aN.bm,.int .i64 x.aN.ah,.int .i64 x.aN.N]
  pos:=by decide
  len:=by rintro _ _ _ _ rfl; rfl
  one:=by rintro _ _ _ _ rfl u hu; simp at hu; rcases hu with rfl | rfl | rfl | rfl <;> rfl
  mono:=by exact fun _ h=>h
theorem mH {w:World} {χ:Nat→Nat} {cs:List Value} {x:aK} (h:bP.R w χ cs x):tI.R w χ ((cs.drop 0).take tI.n) x.az:=by cases h; rfl
theorem kD {w:World} {χ:Nat→Nat} {cs:List Value} {x:aK} (h:bP.R w χ cs x):aR.R w χ ((cs.drop 1).take aR.n) x.aN:=by cases h; rfl
end Go.Proofs.YteahldlmkheleaaGreat
