/- How the types lie in memory. No condition. -/
import Derived.Test.YtobeanopikjkeaaGreatGTypes
set_option linter.all false
namespace Go.Proofs.YtobeanopikjkeaaGreat
open Go Go.Sv
def aF:ct cG where
 n:=4
 bytes:=32
 R:=fun w χ cs x=>cs=[.int .i64 x.State,.int .i64 x.Kind,.int .i64 x.Next,.int .i64 x.Result]
 pos:=by decide
 len:=by rintro _ _ _ _ rfl; rfl
 one:=by rintro _ _ _ _ rfl u hu; simp at hu; rcases hu with rfl | rfl | rfl | rfl <;> rfl
 mono:=by exact fun _ h=>h
theorem oZ {w:World} {χ:Nat→Nat} {cs:List Value} {x:cG} (h:aF.R w χ cs x):tI.R w χ ((cs.drop 0).take tI.n) x.State:=by cases h; rfl
theorem tR {w:World} {χ:Nat→Nat} {cs:List Value} {x:cG} (h:aF.R w χ cs x):tI.R w χ ((cs.drop 1).take tI.n) x.Kind:=by cases h; rfl
theorem tQ {w:World} {χ:Nat→Nat} {cs:List Value} {x:cG} (h:aF.R w χ cs x):tI.R w χ ((cs.drop 2).take tI.n) x.Next:=by cases h; rfl
theorem tP {w:World} {χ:Nat→Nat} {cs:List Value} {x:cG} (h:aF.R w χ cs x):tI.R w χ ((cs.drop 3).take tI.n) x.Result:=by cases h; rfl
def xm:ct ah where
 n:=4
 bytes:=48
 R:=fun w χ cs x=>∃ (a1:Option Addr) (c1:Nat),cs=[.int .i64 x.ab,.int .i64 x.aP,.int .i64 x.aU,.slice a1 x.Rows.length c1]∧RS aF w χ a1 x.Rows c1
 pos:=by decide
 len:=by rintro _ _ _ _ ⟨a1,c1,rfl,h0⟩; rfl
 one:=by rintro _ _ _ _ ⟨a1,c1,rfl,h0⟩ u hu; simp at hu; rcases hu with rfl | rfl | rfl | rfl <;> rfl
 mono:=by rintro _ _ _ _ _ _ m ⟨a1,c1,rfl,h0⟩; exact ⟨a1,c1,rfl,h0.m0 m⟩
def ar:ct ae where
 n:=5
 bytes:=40
 R:=fun w χ cs x=>cs=[.int .i64 x.Prc,.int .i64 x.Kind,.int .i64 x.aN,.int .i64 x.End,.int .i64 x.Result]
 pos:=by decide
 len:=by rintro _ _ _ _ rfl; rfl
 one:=by rintro _ _ _ _ rfl u hu; simp at hu; rcases hu with rfl | rfl | rfl | rfl | rfl <;> rfl
 mono:=by exact fun _ h=>h
theorem nq {w:World} {χ:Nat→Nat} {cs:List Value} {x:ae} (h:ar.R w χ cs x):tI.R w χ ((cs.drop 1).take tI.n) x.Kind:=by cases h; rfl
theorem yS {w:World} {χ:Nat→Nat} {cs:List Value} {x:ae} (h:ar.R w χ cs x):tI.R w χ ((cs.drop 2).take tI.n) x.aN:=by cases h; rfl
theorem rE {w:World} {χ:Nat→Nat} {cs:List Value} {x:ae} (h:ar.R w χ cs x):tI.R w χ ((cs.drop 3).take tI.n) x.End:=by cases h; rfl
theorem yR {w:World} {χ:Nat→Nat} {cs:List Value} {x:ae} (h:ar.R w χ cs x):tI.R w χ ((cs.drop 4).take tI.n) x.Result:=by cases h; rfl
def aO:ct ak where
 n:=2
 bytes:=16
 R:=fun w χ cs x=>cs=[.int .i64 x.Oper,.int .i64 x.Result]
 pos:=by decide
 len:=by rintro _ _ _ _ rfl; rfl
 one:=by rintro _ _ _ _ rfl u hu; simp at hu; rcases hu with rfl | rfl <;> rfl
 mono:=by exact fun _ h=>h
theorem rz {w:World} {χ:Nat→Nat} {cs:List Value} {x:ak} (h:aO.R w χ cs x):tI.R w χ ((cs.drop 0).take tI.n) x.Oper:=by cases h; rfl
def bT:ct aE where
 n:=2
 bytes:=8
 R:=fun w χ cs x=>cs=[.int .u32 x.yes,.int .u32 x.no]
 pos:=by decide
 len:=by rintro _ _ _ _ rfl; rfl
 one:=by rintro _ _ _ _ rfl u hu; simp at hu; rcases hu with rfl | rfl <;> rfl
 mono:=by exact fun _ h=>h
theorem uq {w:World} {χ:Nat→Nat} {cs:List Value} {x:aE} (h:bT.R w χ cs x):(xl .u32 4).R w χ ((cs.drop 0).take (xl .u32 4).n) x.yes:=by cases h; rfl
theorem uo {w:World} {χ:Nat→Nat} {cs:List Value} {x:aE} (h:bT.R w χ cs x):(xl .u32 4).R w χ ((cs.drop 1).take (xl .u32 4).n) x.no:=by cases h; rfl
end Go.Proofs.YtobeanopikjkeaaGreat
