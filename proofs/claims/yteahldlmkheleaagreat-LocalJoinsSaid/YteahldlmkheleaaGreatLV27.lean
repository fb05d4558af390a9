/- IH ac QP a ms of each part; they Lm the fill of GM order. -/
import Derived.Test.YteahldlmkheleaaGreatLV26
set_option linter.all false
namespace Go.Proofs.YteahldlmkheleaaGreat
open Go Go.Sv Go.Pu
theorem uj (w:List Int) (i:Int):∀ t:Nat,iX w i t=((g7 w (gi w i) t).length:Int)
 | 0=>by simp [iX,g7]
 | t+1=>by
  rw [iX,eS,uj w i t,List.length_append]
  by_cases e:gi w (t:Int)=gi w i
  ·rw [if_pos e,if_pos (by simpa using e)]; simp
  ·rw [if_neg e,if_neg (by simpa using e)]; simp
theorem AO {w:List Int} {k:Int} {t:Nat} (hk:gi w (t:Int)=k):∀ n:Nat,t < n→gi (g7 w k n) ((g7 w k t).length:Int)=(t:Int)∧(g7 w k t).length < (g7 w k n).length
 | 0,h=>by omega
 | n+1,h=>by
  rw [eS]
  by_cases e:n=t
  ·subst e
   rw [if_pos (by simpa using hk),om,List.length_append]
   exact ⟨rfl,by simp⟩
  ·obtain ⟨h1,h2⟩:=AO hk n (by omega)
   rw [List.length_append]
   refine ⟨?_,by omega⟩
   split
   ·rw [oo (by omega) (by omega)]; exact h1
   ·rw [List.append_nil]; exact h1
theorem ui {w:List Int} {i:Int} (h0:0≤i) (h1:i < w.length):0≤dV w i∧dV w i < (aS w (gi w i)).length∧gi (aS w (gi w i)) (dV w i)=i:=by
 obtain ⟨n,rfl⟩:=Int.eq_ofNat_of_zero_le h0
 unfold dV
 rw [show ((n:Int)).toNat=n by omega,uj,gb]
 obtain ⟨a,b⟩:=AO (w:=w) (k:=gi w (n:Int)) (t:=n) rfl w.length (by omega)
 exact ⟨by omega,by omega,a⟩
def jv (h:aj) (k:Int) (p:List aa):List aa:=(jU (ofH h) k p).map fun q=>⟨dV (ofH h) q.Oper,q.Result⟩
theorem uz {of:List Int} {k:Int} {p:List aa} {q:aa}:q∈jU of k p↔q∈p∧gi of q.Oper=k:=by
 unfold jU; rw [List.mem_filter,beq_iff_eq]
theorem uh {h:aj} {k:Int} {p:List aa} (jS:∀ q∈p,0≤q.Oper∧q.Oper < (bo h).length):(jv h k p).map (fP (aS (ofH h) k))=jU (ofH h) k p:=by
 unfold jv
 rw [List.map_map]
 have:∀ q∈jU (ofH h) k p,(fP (aS (ofH h) k) ∘ fun q:aa=>(⟨dV (ofH h) q.Oper,q.Result⟩:aa)) q=q:=fun q hq=>by
  obtain ⟨h1,h2⟩:=uz.1 hq
  have:=jS q h1
  have hl:=eR h
  have hr:=(ui (w:=ofH h) this.1 (by omega)).2.2
  rw [h2] at hr
  show (⟨gi (aS (ofH h) k) (dV (ofH h) q.Oper),q.Result⟩:aa)=q
  rw [hr]
 rw [List.map_congr_left this,List.map_id']
theorem yQ {h:aj} {k:Int} {p:List aa} (jS:∀ q∈p,0≤q.Oper∧q.Oper < (bo h).length):∀ q∈jv h k p,0≤q.Oper∧q.Oper < (dc (bo h) (ofH h) k).length:=fun q hq=>by
 unfold jv at hq
 obtain ⟨x,hx,rfl⟩:=List.mem_map.1 hq
 obtain ⟨h1,h2⟩:=uz.1 hx
 have:=jS x h1
 have hl:=eR h
 have hr:=ui (w:=ofH h) this.1 (by omega)
 rw [h2] at hr
 rw [lM (eR h),List.length_map]
 exact ⟨hr.1,hr.2.1⟩
end Go.Proofs.YteahldlmkheleaaGreat
