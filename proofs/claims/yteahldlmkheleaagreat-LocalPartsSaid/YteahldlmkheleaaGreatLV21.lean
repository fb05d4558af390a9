/- What the law reaches besides; it is awake. -/
import Derived.Test.YteahldlmkheleaaGreatLV20
set_option linter.all false
namespace Go.Proofs.YteahldlmkheleaaGreat
open Go Go.Sv Go.Pu
theorem v27:VC27 (fun r=>r=dC):=rfl
theorem v22 (o:Int):VC22 o (fun r=>r=cG o):=by
 unfold VC22
 rintro _ rfl _ _ rfl _
 rfl
theorem v11 (h:al) (hp:l5 h):VC11 h (fun r=>r=eO h):=by
 unfold VC11 l5 at *
 intro _ _
 refine ⟨fun out x=>∃ k:Nat,x=k∧k≤h.aq.length∧out=(h.aq.take k).map (fun x=>(⟨x.aA,x.aW⟩:aG)),fun _ x=>(h.aq.length - x).toNat,⟨0,rfl,by omega,rfl⟩,?_⟩
 rintro _ _ ⟨k,rfl,hk,rfl⟩
 refine ⟨fun hi=>?_,fun hi=>?_⟩
 ·rw [decide_eq_true_eq] at hi
  rw [wrp (n:=(k:Int)+1) (by omega) (by omega)]
  refine ⟨⟨by omega,hi⟩,⟨by omega,hi⟩,by simp; omega,⟨k+1,by push_cast; rfl,by omega,?_⟩,by dsimp only; omega⟩
  rw [fy (by omega),List.map_append]; rfl
 ·rw [decide_eq_false_iff_not] at hi
  unfold VC11_J1 eO
  rw [List.take_of_length_le (by omega)]
theorem v7 (h:al):VC7 h (fun r=>r=fj h):=by
 unfold VC7
 intro _ hs
 simp only [sm] at hs
 refine ⟨fun n x=>∃ k:Nat,x=k∧k≤h.aq.length∧n=(((h.aq.take k).countP (fun x=>x.aW.bo == 1):Nat):Int),fun _ x=>(h.aq.length - x).toNat,⟨0,rfl,by omega,rfl⟩,?_⟩
 rintro _ _ ⟨k,rfl,hk,rfl⟩
 have hc:=List.countP_le_length (p:=fun x:bd=>x.aW.bo == 1) (l:=h.aq.take k)
 rw [List.length_take] at hc
 refine ⟨fun hi=>?_,fun hi=>?_⟩
 ·rw [decide_eq_true_eq] at hi
  refine ⟨⟨by omega,hi⟩,fun hw=>?_,fun hw=>?_⟩ <;> unfold VC7_J2 <;> rw [wrp (n:=(k:Int)+1) (by omega) (by omega)] <;> refine ⟨⟨k+1,by push_cast; rfl,by omega,?_⟩,by dsimp only; omega⟩
  ·rw [wrp (by omega) (by omega),fy (by omega),List.countP_append,List.countP_cons,if_pos hw]; simp
  ·rw [fy (by omega),List.countP_append,List.countP_cons,if_neg (by rw [hw]; decide)]; simp
 ·rw [decide_eq_false_iff_not] at hi
  unfold VC7_J1 fj
  rw [List.take_of_length_le (by omega)]
theorem v6 (h:al):VC6 h (fun r=>r=hK h):=by
 unfold VC6
 intro hs _
 simp only [sm] at hs
 refine ⟨fun h1=>?_,fun h1=>?_⟩
 ·unfold hK
  have:¬ (h.ae.length≤10∧h.aq.length≤20):=by simp at h1; omega
  by_cases a:h.ae.length≤10
  ·rw [decide_eq_true a,decide_eq_false (fun b=>this ⟨a,b⟩)]; rfl
  ·rw [decide_eq_false a]; rfl
 ·have h1:h.ae.length≤10∧h.aq.length≤20:=by simp at h1; omega
  unfold hK
  rw [decide_eq_true h1.1,decide_eq_true h1.2,Bool.true_and,Bool.true_and]
  refine ⟨fun x=>∃ k:Nat,x=k∧k≤h.ae.length∧∀ y:Nat,y < k→hU (gi h.ae (y:Int))=true,fun x=>(h.ae.length - x).toNat,⟨0,rfl,by omega,fun y hy=>by omega⟩,?_⟩
  rintro _ ⟨k,rfl,hk,hb⟩
  refine ⟨fun hi=>?_,fun hi=>?_⟩
  ·rw [decide_eq_true_eq] at hi
   refine ⟨⟨by omega,hi⟩,fun _=>?_⟩
   rintro _ rfl
   refine ⟨fun hf=>?_,fun hf=>?_⟩
   ·refine Eq.symm ?_
    rw [List.all_eq_false]
    exact ⟨_,dB (by omega) hi,by simpa using hf⟩
   ·rw [wrp (n:=(k:Int)+1) (by omega) (by omega)]
    refine ⟨⟨k+1,by push_cast; rfl,by omega,fun y hy=>?_⟩,by dsimp only; omega⟩
    by_cases e:y=k
    ·subst e; simpa using hf
    ·exact hb y (by omega)
  ·rw [decide_eq_false_iff_not] at hi
   unfold VC6_J1
   refine Eq.symm ?_
   rw [List.all_eq_true]
   intro x hx
   obtain ⟨i,Cn,rfl⟩:=List.getElem_of_mem hx
   have:=hb i (by omega)
   rwa [bZ _ _ Cn] at this
theorem iq (o:Int):gl (cG o):=by
 have hf:kL dC:=by unfold kL inR; decide
 refine ⟨fun x hx=>?_,by show (4:Nat)≤1000000; decide,fun x hx=>?_⟩
 ·have:x=dC:=by
   unfold cG at hx; simpa using hx
  rw [this]; exact hf
 ·have:x=dC:=by
   unfold cG at hx; simpa using hx
  rw [this]; decide
theorem D7 {os:List aj} {a b:List bd} (h:gl ⟨os,a⟩) (hb:b.length≤1000000):gl ⟨os,b⟩:=⟨h.1,hb,h.2.2⟩
theorem v8:VC8 (fun r=>r=fI):=by
 unfold VC8
 rintro _ rfl _ _
 refine ⟨iq 0,?_⟩
 rintro _ rfl _ rfl _ _
 refine ⟨iq 1,?_⟩
 rintro _ rfl _ rfl _ _
 refine ⟨iq 0,?_⟩
 rintro _ rfl _ _ rfl _ _
 refine ⟨iq 1,?_⟩
 rintro _ rfl _ _ rfl _ _
 refine ⟨iq 0,?_⟩
 rintro _ rfl
 refine ⟨⟨(fun x hx=>by cases hx),by decide,(fun x hx=>by cases hx)⟩,?_⟩
 rintro _ rfl _ rfl _ _
 refine ⟨by decide,D7 (iq 0) (by decide),?_⟩
 rintro _ rfl _ rfl _ _
 refine ⟨iq 1,?_⟩
 rintro _ rfl _ _ _ rfl _ _
 refine ⟨iq 1,?_⟩
 rintro _ rfl _ _
 refine ⟨fun _=>?_,fun h=>?_⟩
 ·rintro _ rfl _ _
  refine ⟨⟨iq 0,by decide +kernel⟩,?_⟩
  rintro _ rfl
  refine ⟨fun _=>?_,fun h=>?_⟩
  ·rintro _ rfl
   refine ⟨fun _=>?_,fun h=>?_⟩
   ·rintro _ rfl _ _ rfl
    refine ⟨fun _=>?_,fun h=>?_⟩
    ·rintro _ rfl _ _
     refine ⟨⟨iq 0,by decide⟩,?_⟩
     rintro _ rfl
     decide +kernel
    ·exfalso; revert h; decide +kernel
   ·exfalso; revert h; decide +kernel
  ·exfalso; revert h; decide +kernel
 ·exfalso; revert h; decide +kernel
end Go.Proofs.YteahldlmkheleaaGreat
