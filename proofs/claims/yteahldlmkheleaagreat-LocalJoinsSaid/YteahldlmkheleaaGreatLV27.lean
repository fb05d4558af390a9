/- Joint picks say a linearization of each part; they are the fill of their order. -/
import Derived.Test.YteahldlmkheleaaGreatLV26
set_option linter.all false
namespace Go.Proofs.YteahldlmkheleaaGreat
open Go Go.Sv Go.Pu
theorem vl (w:List Int) (i:Int):∀ t:Nat,jy w i t=((ix w (gi w i) t).length:Int)
 | 0=>by simp [jy,ix]
 | t+1=>by
  rw [jy,fg,vl w i t,List.length_append]
  by_cases e:gi w (t:Int)=gi w i
  ·rw [if_pos e,if_pos (by simpa using e)]; simp
  ·rw [if_neg e,if_neg (by simpa using e)]; simp
theorem B3 {w:List Int} {k:Int} {t:Nat} (hk:gi w (t:Int)=k):∀ n:Nat,t < n→gi (ix w k n) ((ix w k t).length:Int)=(t:Int)∧(ix w k t).length < (ix w k n).length
 | 0,h=>by omega
 | n+1,h=>by
  rw [fg]
  by_cases e:n=t
  ·subst e
   rw [if_pos (by simpa using hk),pc,List.length_append]
   exact ⟨rfl,by simp⟩
  ·obtain ⟨h1,h2⟩:=B3 hk n (by omega)
   rw [List.length_append]
   refine ⟨?_,by omega⟩
   split
   ·rw [pd (by omega) (by omega)]; exact h1
   ·rw [List.append_nil]; exact h1
theorem vk {w:List Int} {i:Int} (h0:0≤i) (h1:i < w.length):0≤ew w i∧ew w i < (aW w (gi w i)).length∧gi (aW w (gi w i)) (ew w i)=i:=by
 obtain ⟨n,rfl⟩:=Int.eq_ofNat_of_zero_le h0
 unfold ew
 rw [show ((n:Int)).toNat=n by omega,vl,gz]
 obtain ⟨a,b⟩:=B3 (w:=w) (k:=gi w (n:Int)) (t:=n) rfl w.length (by omega)
 exact ⟨by omega,by omega,a⟩
def j6 (h:ak) (k:Int) (p:List aa):List aa:=(kH (ofH h) k p).map fun q=>⟨ew (ofH h) q.Oper,q.Result⟩
theorem vC {of:List Int} {k:Int} {p:List aa} {q:aa}:q∈kH of k p↔q∈p∧gi of q.Oper=k:=by
 unfold kH; rw [List.mem_filter,beq_iff_eq]
theorem vj {h:ak} {k:Int} {p:List aa} (kF:∀ q∈p,0≤q.Oper∧q.Oper < (bw h).length):(j6 h k p).map (gk (aW (ofH h) k))=kH (ofH h) k p:=by
 unfold j6
 rw [List.map_map]
 have:∀ q∈kH (ofH h) k p,(gk (aW (ofH h) k) ∘ fun q:aa=>(⟨ew (ofH h) q.Oper,q.Result⟩:aa)) q=q:=fun q hq=>by
  obtain ⟨h1,h2⟩:=vC.1 hq
  have:=kF q h1
  have hl:=ff h
  have hr:=(vk (w:=ofH h) this.1 (by omega)).2.2
  rw [h2] at hr
  show (⟨gi (aW (ofH h) k) (ew (ofH h) q.Oper),q.Result⟩:aa)=q
  rw [hr]
 rw [List.map_congr_left this,List.map_id']
theorem Ag {h:ak} {k:Int} {p:List aa} (kF:∀ q∈p,0≤q.Oper∧q.Oper < (bw h).length):∀ q∈j6 h k p,0≤q.Oper∧q.Oper < (dn (bw h) (ofH h) k).length:=fun q hq=>by
 unfold j6 at hq
 obtain ⟨x,hx,rfl⟩:=List.mem_map.1 hq
 obtain ⟨h1,h2⟩:=vC.1 hx
 have:=kF x h1
 have hl:=ff h
 have hr:=vk (w:=ofH h) this.1 (by omega)
 rw [h2] at hr
 rw [my (ff h),List.length_map]
 exact ⟨hr.1,hr.2.1⟩
end Go.Proofs.YteahldlmkheleaaGreat
