/- bk the law reaches Jt; it is Nr. -/
import Derived.Test.YteahldlmkheleaaGreatLV20
set_option linter.all false
namespace Go.Proofs.YteahldlmkheleaaGreat
open Go Go.Sv Go.Pu
theorem v27:VC27 (fun r=>r=dr):=rfl
theorem v22 (o:Int):VC22 o (fun r=>r=cv o):=by
 unfold VC22
 rintro _ rfl _ _ rfl _
 rfl
theorem v11 (h:ak) (hp:lq h):VC11 h (fun r=>r=eu h):=by
 unfold VC11 lq at *
 intro _ _
 refine ⟨fun out x=>∃ k:Nat,x=k∧k≤h.ao.length∧out=(h.ao.take k).map (fun x=>(⟨x.ax,x.aS⟩:aD)),fun _ x=>(h.ao.length - x).toNat,⟨0,rfl,by omega,rfl⟩,?_⟩
 rintro _ _ ⟨k,rfl,hk,rfl⟩
 refine ⟨fun hi=>?_,fun hi=>?_⟩
 ·rw [decide_eq_true_eq] at hi
  rw [wrp (n:=(k:Int)+1) (by omega) (by omega)]
  refine ⟨⟨by omega,hi⟩,⟨by omega,hi⟩,by simp; omega,⟨k+1,by push_cast; rfl,by omega,?_⟩,by dsimp only; omega⟩
  rw [e9 (by omega),List.map_append]; rfl
 ·rw [decide_eq_false_iff_not] at hi
  unfold VC11_J1 eu
  rw [List.take_of_length_le (by omega)]
theorem v7 (h:ak):VC7 h (fun r=>r=eT h):=by
 unfold VC7
 intro _ hs
 simp only [sm] at hs
 refine ⟨fun n x=>∃ k:Nat,x=k∧k≤h.ao.length∧n=(((h.ao.take k).countP (fun x=>x.aS.bk == 1):Nat):Int),fun _ x=>(h.ao.length - x).toNat,⟨0,rfl,by omega,rfl⟩,?_⟩
 rintro _ _ ⟨k,rfl,hk,rfl⟩
 have hc:=List.countP_le_length (p:=fun x:ba=>x.aS.bk == 1) (l:=h.ao.take k)
 rw [List.length_take] at hc
 refine ⟨fun hi=>?_,fun hi=>?_⟩
 ·rw [decide_eq_true_eq] at hi
  refine ⟨⟨by omega,hi⟩,fun hw=>?_,fun hw=>?_⟩ <;> unfold VC7_J2 <;> rw [wrp (n:=(k:Int)+1) (by omega) (by omega)] <;> refine ⟨⟨k+1,by push_cast; rfl,by omega,?_⟩,by dsimp only; omega⟩
  ·rw [wrp (by omega) (by omega),e9 (by omega),List.countP_append,List.countP_cons,if_pos hw]; simp
  ·rw [e9 (by omega),List.countP_append,List.countP_cons,if_neg (by rw [hw]; decide)]; simp
 ·rw [decide_eq_false_iff_not] at hi
  unfold VC7_J1 eT
  rw [List.take_of_length_le (by omega)]
theorem v6 (h:ak):VC6 h (fun r=>r=gH h):=by
 unfold VC6
 intro hs _
 simp only [sm] at hs
 refine ⟨fun h1=>?_,fun h1=>?_⟩
 ·unfold gH
  have:¬ (h.ae.length≤10∧h.ao.length≤20):=by simp at h1; omega
  by_cases a:h.ae.length≤10
  ·rw [decide_eq_true a,decide_eq_false (fun b=>this ⟨a,b⟩)]; rfl
  ·rw [decide_eq_false a]; rfl
 ·have h1:h.ae.length≤10∧h.ao.length≤20:=by simp at h1; omega
  unfold gH
  rw [decide_eq_true h1.1,decide_eq_true h1.2,Bool.true_and,Bool.true_and]
  refine ⟨fun x=>∃ k:Nat,x=k∧k≤h.ae.length∧∀ y:Nat,y < k→gI (gi h.ae (y:Int))=true,fun x=>(h.ae.length - x).toNat,⟨0,rfl,by omega,fun y hy=>by omega⟩,?_⟩
  rintro _ ⟨k,rfl,hk,hb⟩
  refine ⟨fun hi=>?_,fun hi=>?_⟩
  ·rw [decide_eq_true_eq] at hi
   refine ⟨⟨by omega,hi⟩,fun _=>?_⟩
   rintro _ rfl
   refine ⟨fun hf=>?_,fun hf=>?_⟩
   ·refine Eq.symm ?_
    rw [List.all_eq_false]
    exact ⟨_,dq (by omega) hi,by simpa using hf⟩
   ·rw [wrp (n:=(k:Int)+1) (by omega) (by omega)]
    refine ⟨⟨k+1,by push_cast; rfl,by omega,fun y hy=>?_⟩,by dsimp only; omega⟩
    by_cases e:y=k
    ·subst e; simpa using hf
    ·exact hb y (by omega)
  ·rw [decide_eq_false_iff_not] at hi
   unfold VC6_J1
   refine Eq.symm ?_
   rw [List.all_eq_true]
   intro x hx
   obtain ⟨i,A8,rfl⟩:=List.getElem_of_mem hx
   have:=hb i (by omega)
   rwa [bS _ _ A8] at this
theorem gV (o:Int):fQ (cv o):=by
 have hf:jW dr:=by unfold jW inR; decide
 refine ⟨fun x hx=>?_,by show (4:Nat)≤1000000; decide,fun x hx=>?_⟩
 ·have:x=dr:=by
   unfold cv at hx; simpa using hx
  rw [this]; exact hf
 ·have:x=dr:=by
   unfold cv at hx; simpa using hx
  rw [this]; decide
theorem CP {os:List ah} {a b:List ba} (h:fQ ⟨os,a⟩) (hb:b.length≤1000000):fQ ⟨os,b⟩:=⟨h.1,hb,h.2.2⟩
theorem v8:VC8 (fun r=>r=fk):=by
 unfold VC8
 rintro _ rfl _ _
 refine ⟨gV 0,?_⟩
 rintro _ rfl _ rfl _ _
 refine ⟨gV 1,?_⟩
 rintro _ rfl _ rfl _ _
 refine ⟨gV 0,?_⟩
 rintro _ rfl _ _ rfl _ _
 refine ⟨gV 1,?_⟩
 rintro _ rfl _ _ rfl _ _
 refine ⟨gV 0,?_⟩
 rintro _ rfl
 refine ⟨⟨(fun x hx=>by cases hx),by decide,(fun x hx=>by cases hx)⟩,?_⟩
 rintro _ rfl _ rfl _ _
 refine ⟨by decide,CP (gV 0) (by decide),?_⟩
 rintro _ rfl _ rfl _ _
 refine ⟨gV 1,?_⟩
 rintro _ rfl _ _ _ rfl _ _
 refine ⟨gV 1,?_⟩
 rintro _ rfl _ _
 refine ⟨fun _=>?_,fun h=>?_⟩
 ·rintro _ rfl _ _
  refine ⟨⟨gV 0,by decide +kernel⟩,?_⟩
  rintro _ rfl
  refine ⟨fun _=>?_,fun h=>?_⟩
  ·rintro _ rfl
   refine ⟨fun _=>?_,fun h=>?_⟩
   ·rintro _ rfl _ _ rfl
    refine ⟨fun _=>?_,fun h=>?_⟩
    ·rintro _ rfl _ _
     refine ⟨⟨gV 0,by decide⟩,?_⟩
     rintro _ rfl
     decide +kernel
    ·exfalso; revert h; decide +kernel
   ·exfalso; revert h; decide +kernel
  ·exfalso; revert h; decide +kernel
 ·exfalso; revert h; decide +kernel
end Go.Proofs.YteahldlmkheleaaGreat
