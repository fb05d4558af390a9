/- A Fd own jz LV its jz in the whole,by other places. -/
import Derived.Test.YteahldlmkheleaaGreatLV21
set_option linter.all false
namespace Go.Proofs.YteahldlmkheleaaGreat
open Go Go.Sv Go.Pu
theorem zg {α:Type} [Inhabited α] {l:List α} {x:α} {j:Int} (h0:0≤j) (h1:j < l.length):gi (l++[x]) j=gi l j:=by
 rw [jo h0 (by simp; omega),jo h0 h1,List.getElem_append_left]
theorem zf {α:Type} [Inhabited α] (l:List α) (x:α):gi (l++[x]) (l.length:Int)=x:=by
 rw [bS _ _ (by simp)]; simp
theorem np (of:List Int) (k:Int):∀ t:Nat,List.Pairwise (· < ·) (iu of k t)
 | 0=>by simp [iu]
 | t+1=>by
  rw [g8]
  have ih:=np of k t
  split
  ·rw [List.pairwise_append]
   refine ⟨ih,by simp,fun a ha b hb=>?_⟩
   rw [List.mem_singleton] at hb
   have:=n6.1 ha
   omega
  ·rw [List.append_nil]; exact ih
theorem yr {l:List Int} (h:List.Pairwise (· < ·) l) {i j:Int} (h0:0≤i) (h1:i < j) (h2:j < l.length):gi l i < gi l j:=by
 rw [jo h0 (by omega),jo (by omega) h2]
 exact List.pairwise_iff_getElem.1 h _ _ _ _ (by omega)
end Go.Proofs.YteahldlmkheleaaGreat
