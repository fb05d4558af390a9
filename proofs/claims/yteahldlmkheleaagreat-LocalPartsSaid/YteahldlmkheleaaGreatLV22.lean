/- A part's own operations are its operations in the whole, by other places. -/
import Derived.Test.YteahldlmkheleaaGreatLV21
set_option linter.all false
namespace Go.Proofs.YteahldlmkheleaaGreat
open Go Go.Sv Go.Pu
theorem Ax {α:Type} [Inhabited α] {l:List α} {x:α} {j:Int} (h0:0≤j) (h1:j < l.length):gi (l++[x]) j=gi l j:=by
 rw [jU h0 (by simp; omega),jU h0 h1,List.getElem_append_left]
theorem Aw {α:Type} [Inhabited α] (l:List α) (x:α):gi (l++[x]) (l.length:Int)=x:=by
 rw [bZ _ _ (by simp)]; simp
theorem ob (of:List Int) (k:Int):∀ t:Nat,List.Pairwise (· < ·) (iU of k t)
 | 0=>by simp [iU]
 | t+1=>by
  rw [iy]
  have ih:=ob of k t
  split
  ·rw [List.pairwise_append]
   refine ⟨ih,by simp,fun a ha b hb=>?_⟩
   rw [List.mem_singleton] at hb
   have:=oZ.1 ha
   omega
  ·rw [List.append_nil]; exact ih
theorem zR {l:List Int} (h:List.Pairwise (· < ·) l) {i j:Int} (h0:0≤i) (h1:i < j) (h2:j < l.length):gi l i < gi l j:=by
 rw [jU h0 (by omega),jU (by omega) h2]
 exact List.pairwise_iff_getElem.1 h _ _ _ _ (by omega)
end Go.Proofs.YteahldlmkheleaaGreat
