/- The law: the models of the formula say just the linearizations. Conditions: in each lemma. -/
import Derived.Test.YtobeanopikjkeaaGreatGV10
set_option linter.all false
namespace Go.Proofs.YtobeanopikjkeaaGreat
open Go Go.Sv Go.Pu
theorem Na {L:List Bool} {u q:Nat} (h:u < L.length) (hq:q < L.length):gi (L.set u true) (q:Int)=if u=q then true else gi L (q:Int):=by
 rw [cA _ _ (by simpa using hq),List.getElem_set,cA _ _ hq]
theorem xO {o:ah} {l:List ae} (Sj:l.length≤3) (hz:(bo o l).2=0) (hb:bA (bg o l).1=0) :
  (∀ j:Nat,j < (dt (bg o l).1).length→∃ p,bX o l (bz ((gi (dt (bg o l).1) (j:Int):Nat):Int) (bg o l).1.bC)=(p,0)∧p∈bM o l) ∧
  ∀ p∈bM o l,∃ j:Nat,j < (dt (bg o l).1).length∧bX o l (bz ((gi (dt (bg o l).1) (j:Int):Nat):Int) (bg o l).1.bC)=(p,0):=by
 obtain ⟨e1,ho,hc,_,hk⟩:=jR hz
 have eE:bg o l=(⟨aw (au o l),qc o l (au o l)⟩,0):=by
  unfold bg
  rw [if_neg (by simp [hz]),e1]
 have hA:∀ x,x∈bM o l↔gg o l x=true:=fun x=>Jw ho hc (by omega)
 obtain ⟨v0,v1,_⟩:=js hb
 have hv:(bg o l).1.bC=aw (au o l):=by rw [eE]
 have hcl:(bg o l).1.ai=qc o l (au o l):=by rw [eE]
 have mm:=fun m:Nat=>zL hb (m:=m)
 constructor
 ·intro j hj
  have hm:gi (dt (bg o l).1) (j:Int)∈dt (bg o l).1:=gS (by omega) (by omega)
  obtain ⟨_,h2⟩:=(mm _).1 hm
  rw [hcl,hv] at h2
  have hL:((bz ((gi (dt (bg o l).1) (j:Int):Nat):Int) (aw (au o l))).length:Int)=aw (au o l):=by rw [ot]; omega
  obtain ⟨p,h3,h4⟩:=E2 hz hL h2
  rw [hv]
  exact ⟨p,h3,(hA p).2 h4⟩
 ·intro p hp
  obtain ⟨M,h1,h2,h3⟩:=FJ hz ((hA p).1 hp)
  obtain ⟨t1,t2⟩:=CH (M:=M) (vars:=(bg o l).1.bC) v1 (by rw [hv]; omega)
  have hm:toN M∈dt (bg o l).1:=(mm _).2 ⟨t1,by rw [t2,hcl]; exact h2⟩
  obtain ⟨j,hj,e⟩:=List.getElem_of_mem hm
  refine ⟨j,hj,?_⟩
  rw [cA _ _ hj,e,t2,h3]
theorem v3 {A B:Prop} (o:ah) (l:List ae) (ho:inR .i64 o.ab∧inR .i64 o.aP∧A) (_:B):VC3 o l (fun r=>r=true):=by
 have WA:sS o:=⟨ho.1,ho.2.1⟩
 unfold VC3
 intro _ _
 rintro _ rfl
 refine ⟨fun _=>by rintro _ rfl; rfl,fun hg=>?_⟩
 have Sj:l.length≤3:=by
  simp only [Bool.or_eq_false_iff,decide_eq_false_iff_not] at hg
  omega
 refine ⟨⟨WA,Sj⟩,?_⟩
 rintro _ rfl _ _ rfl
 refine ⟨fun _=>by rintro _ rfl; rfl,fun hx=>⟨show l.length≤5 by omega,?_⟩⟩
 have hz:(bo o l).2=0:=by
  refine Classical.byContradiction fun hn=>?_
  have:(bg o l).2≠0:=by unfold bg; rw [if_pos hn]; exact hn
  simp [this] at hx
 have hb:bA (bg o l).1=0:=by
  refine Classical.byContradiction fun hn=>?_
  have:(ff (bg o l).1).2≠0:=by unfold ff; rw [if_neg hn]; exact hn
  simp [this] at hx
 obtain ⟨F1,F2⟩:=xO Sj hz hb
 obtain ⟨_,v16,_⟩:=js hb
 generalize hf:(bg o l).1=f at *
 have hC:ff f=((((dt f).length:Nat):Int),0):=by unfold ff; rw [if_pos hb]
 have hN:∀ t:Nat,t < (dt f).length→fk f (t:Int)=(bz ((gi (dt f) (t:Int):Nat):Int) f.bC,true):=by
  intro t ht
  unfold fk
  rw [if_pos ⟨hb,by omega,by omega⟩]
 have hn:(dt f).length≤65536:=by
  have:(dt f).length≤2 ^ f.bC.toNat:=by
   unfold dt
   exact Nat.le_trans (List.length_filter_le _ _) (by simp)
  have:2 ^ f.bC.toNat≤2 ^ 16:=Nat.pow_le_pow_right (by decide) (by omega)
  omega
 rintro _ rfl uc
 unfold sm at uc
 have hlen:(bM o l).length≤1000:=by
  have:=(uL (n:=l.length) (by omega)).1
  exact Nat.le_trans (List.length_filterMap_le _ _) this
 rw [hC]
 generalize Zv:(fun j:Nat=>bX o l (bz ((gi (dt f) (j:Int):Nat):Int) f.bC))=pk at *
 have PI:∀ j:Nat,bX o l (bz ((gi (dt f) (j:Int):Nat):Int) f.bC)=pk j:=fun j=>by rw [← Zv]
 simp only [PI] at F1 F2
 refine ⟨⟨by omega,by omega,by omega⟩,fun said i=>∃ t:Nat,i=t∧t≤(dt f).length∧said.length=(bM o l).length∧∀ q:Nat,q < (bM o l).length→(gi said (q:Int)=true↔∃ j:Nat,j < t∧(pk j).1=gi (bM o l) (q:Int)),fun _ i=>((dt f).length - i).toNat,⟨0,rfl,by omega,by simp,fun q hq=>?_⟩,?_⟩
 ·rw [cA _ _ (by simp; omega)]
  simp
 rintro said _ ⟨t,rfl,ht,Ki,Wz⟩
 refine ⟨fun hi=>?_,fun hi=>?_⟩
 ·have hi:t < (dt f).length:=by simpa using hi
  obtain ⟨p,Sg,Ua⟩:=F1 t hi
  rintro _ rfl
  rw [hN t hi]
  dsimp only
  intro _
  refine ⟨⟨WA,Sj⟩,?_⟩
  rw [PI t,Sg]
  rintro _ rfl _
  refine ⟨fun h=>by simp at h,fun _=>?_⟩
  dsimp only
  refine ⟨fun s2 one k=>∃ u:Nat,k=u∧u≤(bM o l).length∧s2.length=(bM o l).length∧(∀ q:Nat,q < (bM o l).length→(gi s2 (q:Int)=true↔gi said (q:Int)=true∨(q < u∧gi (bM o l) (q:Int)=p)))∧(one=true↔∃ q:Nat,q < u∧gi (bM o l) (q:Int)=p),fun _ _ k=>((bM o l).length - k).toNat,⟨0,rfl,by omega,Ki,fun q hq=>by simp,by simp⟩,?_⟩
  rintro s2 one _ ⟨u,rfl,hu,hs2,PF,rO⟩
  refine ⟨fun hk=>?_,fun hk=>?_⟩
  ·have hk:(u:Int) < (bM o l).length:=by simpa using hk
   refine ⟨⟨by omega,hk⟩,fun _=>?_⟩
   rintro _ rfl
   unfold gk
   refine ⟨fun he=>⟨⟨by omega,by omega⟩,?_⟩,fun he=>?_⟩
   ·have he:gi (bM o l) (u:Int)=p:=of_decide_eq_true he
    unfold VC3_J4
    rw [wrp (by omega) (by omega)]
    refine ⟨⟨u+1,by simp,by omega,by simpa using hs2,fun q hq=>?_,?_⟩,by dsimp only; omega⟩
    ·rw [show ((u:Int)).toNat=u by omega,Na (by omega) (by omega)]
     by_cases e:u=q
     ·subst e
      rw [if_pos rfl]
      exact ⟨fun _=>.inr ⟨by omega,he⟩,fun _=>rfl⟩
     ·rw [if_neg e,PF q hq]
      constructor
      ·rintro (h | h)
       ·exact .inl h
       ·exact .inr ⟨by omega,h.2⟩
      ·rintro (h | h)
       ·exact .inl h
       ·exact .inr ⟨by omega,h.2⟩
    ·exact ⟨fun _=>⟨u,by omega,he⟩,fun _=>rfl⟩
   ·have he:¬ gi (bM o l) (u:Int)=p:=of_decide_eq_false he
    unfold VC3_J4
    rw [wrp (by omega) (by omega)]
    refine ⟨⟨u+1,by simp,by omega,hs2,fun q hq=>?_,?_⟩,by dsimp only; omega⟩
    ·rw [PF q hq]
     constructor
     ·rintro (h | h)
      ·exact .inl h
      ·exact .inr ⟨by omega,h.2⟩
     ·rintro (h | h)
      ·exact .inl h
      ·by_cases e:u=q
       ·subst e; exact absurd h.2 he
       ·exact .inr ⟨by omega,h.2⟩
    ·rw [rO]
     constructor
     ·rintro ⟨q,h1,h2⟩; exact ⟨q,by omega,h2⟩
     ·rintro ⟨q,h1,h2⟩
      by_cases e:u=q
      ·subst e; exact absurd h2 he
      ·exact ⟨q,by omega,h2⟩
  ·have T2:u=(bM o l).length:=by simp at hk; omega
   unfold VC3_J3
   have h1:one=true:=by
    rw [rO]
    obtain ⟨q,hq,e⟩:=List.getElem_of_mem Ua
    exact ⟨q,by omega,by rw [cA _ _ hq]; exact e⟩
   rw [h1]
   refine ⟨fun h=>(by cases h),fun _=>?_⟩
   rw [wrp (by omega) (by omega)]
   refine ⟨⟨t+1,by simp,by omega,hs2,fun q hq=>?_⟩,by dsimp only; omega⟩
   rw [PF q hq,Wz q hq]
   constructor
   ·rintro (⟨j,h1,h2⟩ | ⟨_,h2⟩)
    ·exact ⟨j,by omega,h2⟩
    ·exact ⟨t,by omega,by rw [Sg,h2]⟩
   ·rintro ⟨j,h1,h2⟩
    by_cases e:j=t
    ·subst e
     rw [Sg] at h2
     exact .inr ⟨by omega,h2.symm⟩
    ·exact .inl ⟨j,by omega,h2⟩
 ·have ht2:t=(dt f).length:=by simp at hi; omega
  have full:∀ q:Nat,q < (bM o l).length→gi said (q:Int)=true:=by
   intro q hq
   rw [Wz q hq]
   obtain ⟨j,hj,e⟩:=F2 (gi (bM o l) (q:Int)) (gS (by omega) (by omega))
   exact ⟨j,by omega,by rw [e]⟩
  unfold VC3_J1
  refine ⟨fun s2 k=>s2=said∧∃ u:Nat,k=u∧u≤(bM o l).length,fun _ k=>((bM o l).length - k).toNat,⟨rfl,0,rfl,by omega⟩,?_⟩
  rintro _ _ ⟨rfl,u,rfl,hu⟩
  refine ⟨fun hk=>?_,fun hk=>?_⟩
  ·have hk:u < (bM o l).length:=by rw [← Ki]; simpa using hk
   rw [full u hk]
   refine ⟨⟨by omega,by omega⟩,fun h=>(by cases h),fun _=>?_⟩
   rw [wrp (by omega) (by omega)]
   exact ⟨⟨rfl,u+1,by simp,by omega⟩,by dsimp only; omega⟩
  ·unfold VC3_J2
   have key:(decide (((dt f).length:Int) > 0))=decide ((((bM o l).length:Nat):Int) > 0):=by
    refine decide_eq_decide.2 ⟨fun h=>?_,fun h=>?_⟩
    ·obtain ⟨p,_,hp⟩:=F1 0 (by omega)
     have:=List.length_pos_of_mem hp
     omega
    ·obtain ⟨j,hj,_⟩:=F2 (gi (bM o l) 0) (gS (by omega) (by omega))
     omega
   dsimp only
   rw [key]
   refine ⟨fun _=>by rintro _ rfl; rfl,fun h=>?_⟩
   simp at h
end Go.Proofs.YtobeanopikjkeaaGreat
