/- How the types lie in memory. -/
import Derived.Test.YteahldlmkheleaaGreatLTypes
set_option linter.all false
namespace Go.Proofs.YteahldlmkheleaaGreat
open Go Go.Sv
def aC:bW bb where
  n:=4
  bytes:=32
  R:=fun w χ cs x=>cs=[.int .i64 x.State,.int .i64 x.Kind,.int .i64 x.Next,.int .i64 x.Result]
  pos:=by decide
  len:=by rintro _ _ _ _ rfl; rfl
  one:=by rintro _ _ _ _ rfl u hu; simp at hu; rcases hu with rfl | rfl | rfl | rfl <;> rfl
  mono:=by exact fun _ h=>h
theorem nU {w:World} {χ:Nat→Nat} {cs:List Value} {x:bb} (h:aC.R w χ cs x):tI.R w χ ((cs.drop 0).take tI.n) x.State:=by cases h; rfl
theorem rR {w:World} {χ:Nat→Nat} {cs:List Value} {x:bb} (h:aC.R w χ cs x):tI.R w χ ((cs.drop 1).take tI.n) x.Kind:=by cases h; rfl
theorem rQ {w:World} {χ:Nat→Nat} {cs:List Value} {x:bb} (h:aC.R w χ cs x):tI.R w χ ((cs.drop 2).take tI.n) x.Next:=by cases h; rfl
theorem rO {w:World} {χ:Nat→Nat} {cs:List Value} {x:bb} (h:aC.R w χ cs x):tI.R w χ ((cs.drop 3).take tI.n) x.Result:=by cases h; rfl
def aB:bW aj where
  n:=4
  bytes:=48
  R:=fun w χ cs x=>∃ (a1:Option Addr) (c1:Nat),cs=[.int .i64 x.au,.int .i64 x.az,.int .i64 x.aH,.slice a1 x.Rows.length c1]∧RS aC w χ a1 x.Rows c1
  pos:=by decide
  len:=by rintro _ _ _ _ ⟨a1,c1,rfl,h0⟩; rfl
  one:=by rintro _ _ _ _ ⟨a1,c1,rfl,h0⟩ u hu; simp at hu; rcases hu with rfl | rfl | rfl | rfl <;> rfl
  mono:=by rintro _ _ _ _ _ _ m ⟨a1,c1,rfl,h0⟩; exact ⟨a1,c1,rfl,h0.m0 m⟩
theorem nt {w:World} {χ:Nat→Nat} {cs:List Value} {x:aj} (h:aB.R w χ cs x):tI.R w χ ((cs.drop 1).take tI.n) x.az:=by obtain ⟨a1,c1,rfl,h0⟩:=h; rfl
theorem ns {w:World} {χ:Nat→Nat} {cs:List Value} {x:aj} (h:aB.R w χ cs x):tI.R w χ ((cs.drop 2).take tI.n) x.aH:=by obtain ⟨a1,c1,rfl,h0⟩:=h; rfl
def ar:bW ab where
  n:=5
  bytes:=40
  R:=fun w χ cs x=>cs=[.int .i64 x.ak,.int .i64 x.Kind,.int .i64 x.aI,.int .i64 x.End,.int .i64 x.Result]
  pos:=by decide
  len:=by rintro _ _ _ _ rfl; rfl
  one:=by rintro _ _ _ _ rfl u hu; simp at hu; rcases hu with rfl | rfl | rfl | rfl | rfl <;> rfl
  mono:=by exact fun _ h=>h
theorem kX {w:World} {χ:Nat→Nat} {cs:List Value} {x:ab} (h:ar.R w χ cs x):tI.R w χ ((cs.drop 1).take tI.n) x.Kind:=by cases h; rfl
theorem pQ {w:World} {χ:Nat→Nat} {cs:List Value} {x:ab} (h:ar.R w χ cs x):tI.R w χ ((cs.drop 2).take tI.n) x.aI:=by cases h; rfl
theorem mH {w:World} {χ:Nat→Nat} {cs:List Value} {x:ab} (h:ar.R w χ cs x):tI.R w χ ((cs.drop 3).take tI.n) x.End:=by cases h; rfl
theorem pP {w:World} {χ:Nat→Nat} {cs:List Value} {x:ab} (h:ar.R w χ cs x):tI.R w χ ((cs.drop 4).take tI.n) x.Result:=by cases h; rfl
def av:bW aa where
  n:=2
  bytes:=16
  R:=fun w χ cs x=>cs=[.int .i64 x.Oper,.int .i64 x.Result]
  pos:=by decide
  len:=by rintro _ _ _ _ rfl; rfl
  one:=by rintro _ _ _ _ rfl u hu; simp at hu; rcases hu with rfl | rfl <;> rfl
  mono:=by exact fun _ h=>h
theorem hG {w:World} {χ:Nat→Nat} {cs:List Value} {x:aa} (h:av.R w χ cs x):tI.R w χ ((cs.drop 0).take tI.n) x.Oper:=by cases h; rfl
def aR:bW aw where
  n:=3
  bytes:=24
  R:=fun w χ cs x=>cs=[.int .i64 x.bo,.int .i64 x.ak,.int .i64 x.N]
  pos:=by decide
  len:=by rintro _ _ _ _ rfl; rfl
  one:=by rintro _ _ _ _ rfl u hu; simp at hu; rcases hu with rfl | rfl | rfl <;> rfl
  mono:=by exact fun _ h=>h
theorem lY {w:World} {χ:Nat→Nat} {cs:List Value} {x:aw} (h:aR.R w χ cs x):tI.R w χ ((cs.drop 0).take tI.n) x.bo:=by cases h; rfl
theorem ig {w:World} {χ:Nat→Nat} {cs:List Value} {x:aw} (h:aR.R w χ cs x):tI.R w χ ((cs.drop 1).take tI.n) x.ak:=by cases h; rfl
theorem oN {w:World} {χ:Nat→Nat} {cs:List Value} {x:aw} (h:aR.R w χ cs x):tI.R w χ ((cs.drop 2).take tI.n) x.N:=by cases h; rfl
def aP:bW bd where
  n:=4
  bytes:=32
  R:=fun w χ cs x=>cs=[.int .i64 x.aA,.int .i64 x.aW.bo,.int .i64 x.aW.ak,.int .i64 x.aW.N]
  pos:=by decide
  len:=by rintro _ _ _ _ rfl; rfl
  one:=by rintro _ _ _ _ rfl u hu; simp at hu; rcases hu with rfl | rfl | rfl | rfl <;> rfl
  mono:=by exact fun _ h=>h
theorem kH {w:World} {χ:Nat→Nat} {cs:List Value} {x:bd} (h:aP.R w χ cs x):tI.R w χ ((cs.drop 0).take tI.n) x.aA:=by cases h; rfl
theorem mG {w:World} {χ:Nat→Nat} {cs:List Value} {x:bd} (h:aP.R w χ cs x):aR.R w χ ((cs.drop 1).take aR.n) x.aW:=by cases h; rfl
def qw:bW al where
  n:=2
  bytes:=48
  R:=fun w χ cs x=>∃ (a1:Option Addr) (c1:Nat) (a2:Option Addr) (c2:Nat),cs=[.slice a1 x.ae.length c1,.slice a2 x.aq.length c2]∧RS aB w χ a1 x.ae c1∧RS aP w χ a2 x.aq c2
  pos:=by decide
  len:=by rintro _ _ _ _ ⟨a1,c1,a2,c2,rfl,h0,h1⟩; rfl
  one:=by rintro _ _ _ _ ⟨a1,c1,a2,c2,rfl,h0,h1⟩ u hu; simp at hu; rcases hu with rfl | rfl <;> rfl
  mono:=by rintro _ _ _ _ _ _ m ⟨a1,c1,a2,c2,rfl,h0,h1⟩; exact ⟨a1,c1,a2,c2,rfl,h0.m0 m,h1.m0 m⟩
def bG:bW aG where
  n:=4
  bytes:=32
  R:=fun w χ cs x=>cs=[.int .i64 x.aA,.int .i64 x.aW.bo,.int .i64 x.aW.ak,.int .i64 x.aW.N]
  pos:=by decide
  len:=by rintro _ _ _ _ rfl; rfl
  one:=by rintro _ _ _ _ rfl u hu; simp at hu; rcases hu with rfl | rfl | rfl | rfl <;> rfl
  mono:=by exact fun _ h=>h
theorem mF {w:World} {χ:Nat→Nat} {cs:List Value} {x:aG} (h:bG.R w χ cs x):tI.R w χ ((cs.drop 0).take tI.n) x.aA:=by cases h; rfl
theorem kG {w:World} {χ:Nat→Nat} {cs:List Value} {x:aG} (h:bG.R w χ cs x):aR.R w χ ((cs.drop 1).take aR.n) x.aW:=by cases h; rfl
end Go.Proofs.YteahldlmkheleaaGreat
