/- Lemmas. -/
import Derived.Test.YteahldlmkheleaaGreatLV5
set_option linter.all false
namespace Go.Proofs.YteahldlmkheleaaGreat
open Go Go.Sv Go.Pu
theorem Ay {l:List Bool} {i j:Int} {b:Bool} (h0:0≤i) (h1:0≤j) (h:i≠j):gi (l.set i.toNat b) j=gi l j:=by
 unfold gi
 rw [List.getD_eq_getElem?_getD,List.getD_eq_getElem?_getD,List.getElem?_set_ne (by omega)]
theorem Az {l:List Bool} {i:Int} {b:Bool} (h0:0≤i) (h1:i < l.length):gi (l.set i.toNat b) i=b:=by
 unfold gi
 rw [List.getD_eq_getElem?_getD,List.getElem?_set_self (by omega)]; rfl
theorem zw:∀ (l:List Bool) (k:Nat),k < l.length→l[k]?=some false→cf (l.set k true)+1=cf l
 | [],k,h,_=>by simp at h
 | b :: l,0,_,h=>by
  have:b=false:=by simpa using h
  subst this; simp [cf]
 | b :: l,k+1,hk,h=>by
  have ih:=zw l k (by simpa using hk) (by simpa using h)
  unfold cf at ih ⊢
  rw [List.set_cons_succ]
  cases b <;> simp [List.count_cons] <;> omega
theorem Jt {l:List Bool} {i:Int} {b:Bool} (h0:0≤i) (h1:i < l.length) (h:gi l i=b):l[i.toNat]?=some b:=by
 rw [qf h0 h1,h]
theorem CM {l:List Bool} {i:Int} (h0:0≤i) (h1:i < l.length) (h:gi l i=false):cf (l.set i.toNat true)+1=cf l:=zw l _ (by omega) (Jt h0 h1 h)
theorem BD {l:List Bool} {i:Int} (h0:0≤i) (h1:i < l.length) (h:gi l i=false):(l.set i.toNat true).set i.toNat false=l:=by
 rw [List.set_set]
 have:=Jt h0 h1 h
 apply List.ext_getElem?
 intro j
 by_cases hj:i.toNat=j
 ·subst hj; rw [List.getElem?_set_self (by omega),this]
 ·rw [List.getElem?_set_ne hj]
theorem JC (l:List Bool):cf l≤l.length:=List.count_le_length
theorem q9 {o:aj} {l:List ab} {st:Int} {done:List Bool} {p:aa} (h:p∈bM o l st done):(bB o).2=0∧0≤p.Oper∧p.Oper < l.length∧l9 l done p.Oper.toNat=true∧jj o l st p.Oper=some p:=by
 unfold bM at h
 split at h
 ·cases h
 ·rename_i hc
  unfold yO at h
  obtain ⟨i,hi,hp⟩:=List.mem_filterMap.1 h
  obtain ⟨a,b,c⟩:=ru hi
  have Qk:p.Oper=i:=by
   unfold jj at hp
   split at hp
   ·rw [← Option.some.inj hp]
   ·cases hp
  subst Qk
  exact ⟨by simpa using hc,a,b,c,hp⟩
theorem vN {l:List ab} {done:List Bool} {i:Int} (h0:0≤i) (h1:i < done.length) (h:l9 l done i.toNat=true):gi done i=false:=by
 unfold l9 isDone at h
 rw [Bool.and_eq_true,Bool.not_eq_true'] at h
 have h:=h.1
 rw [show ((i.toNat:Nat):Int)=i by omega,decide_eq_true h1,Bool.true_and] at h
 exact h
theorem B0 (o:aj) (l:List ab) (st:Int) (done:List Bool):(bM o l st done).length≤l.length:=by
 unfold bM
 split
 ·simp
 ·exact Nat.le_trans (List.length_filterMap_le _ _) (o6 l done l.length)
theorem v102 (N:Nat) (p:aa) (s:Sk) (st:Int) (so:List aa) (hp:yl p s st so) (hm:B7 p s st so < N+1):VC102 N p s st so (fun r=>r=bj p s st so):=by
 intro _ _ _ _
 obtain ⟨⟨w1,w2,w3⟩,hl,h0,h1,hd⟩:=hp
 have hc:=CM h0 (by omega) hd
 unfold B7 at hm
 refine ⟨⟨h0,h1⟩,?_⟩
 rintro _ rfl
 refine ⟨⟨h0,by omega⟩,by show so.length≤1000000; omega,?_⟩
 rintro _ rfl
 intro _
 have As:b7 so=so:=rfl
 rw [As]
 refine ⟨by simp; omega,⟨⟨⟨by simpa using w1,w2,w3⟩,?_⟩,?_⟩,?_⟩
 ·show (so++[p]).length+cf (s.done.set p.Oper.toNat true)≤100
  simp; omega
 ·show 2 * cf (s.done.set p.Oper.toNat true)+1 < N
  omega
 ·rintro _ rfl
  intro _ _ _ _
  refine ⟨⟨h0,by show p.Oper < ((s.done.set p.Oper.toNat true).length:Int); rw [List.length_set]; omega⟩,?_⟩
  have hb:((aK (cw s.o st (gi s.l p.Oper).Kind).1 (so++[p]) ⟨s.o,s.l,s.done.set p.Oper.toNat true,s.failed⟩).2.2.done.set p.Oper.toNat false)=s.done:=BD h0 (by omega) hd
  rw [hb]
  unfold bj Bw aK jH
  show (_,_,_)=_
  simp only [hc]
  rfl
theorem v90 (N:Nat) (st:Int) (so:List aa) (s:Sk) (hp:sx st so s) (hm:o3 st so s < N+1):VC90 N st so s (fun r=>r=aK st so s):=by
 intro _ _ _ _
 obtain ⟨⟨w1,w2,w3⟩,hl⟩:=hp
 unfold o3 at hm
 refine ⟨w1,?_⟩
 rintro _ rfl
 have hF:jH s st so=if kY s.l s.done then ((so,true),s.failed)
  else if (aF s.failed (iV s.done st)).getD 0 > 0 then (([],false),s.failed)
  else if (me (fun p f=>fN s.o s.l (cf s.done) (fe s.o s.l st p) (so++[p]) (s.done.set p.Oper.toNat true) f) (bM s.o s.l st s.done) s.failed).1.2
   then me (fun p f=>fN s.o s.l (cf s.done) (fe s.o s.l st p) (so++[p]) (s.done.set p.Oper.toNat true) f) (bM s.o s.l st s.done) s.failed
   else (([],false),oA (me (fun p f=>fN s.o s.l (cf s.done) (fe s.o s.l st p) (so++[p]) (s.done.set p.Oper.toNat true) f) (bM s.o s.l st s.done) s.failed).2 (iV s.done st)):=rfl
 unfold aK
 rw [hF]
 have hw:dU s=kY s.l s.done:=rfl
 rw [hw]
 refine ⟨fun h=>?_,fun h=>?_⟩
 ·rw [if_pos h]
 rw [if_neg (by simp [h])]
 rintro _ rfl
 have hh:dI st s=iV s.done st:=rfl
 rw [hh]
 refine ⟨fun h2=>?_,fun h2=>?_⟩
 ·rw [if_pos (of_decide_eq_true h2)]
 rw [if_neg (of_decide_eq_false h2)]
 refine ⟨⟨w3,by omega⟩,?_⟩
 rintro _ rfl
 intro _
 have rk:∀ p∈bM s.o s.l st s.done,0≤p.Oper∧p.Oper < s.l.length∧gi s.done p.Oper=false:=fun p hp=>by
  obtain ⟨_,a,b,c,_⟩:=q9 hp
  exact ⟨a,b,vN a (by omega) c⟩
 have Mz:=B0 s.o s.l st s.done
 generalize bM s.o s.l st s.done=L at *
 generalize hg:(fun (p:aa) (f:Fm)=>fN s.o s.l (cf s.done) (fe s.o s.l st p) (so++[p]) (s.done.set p.Oper.toNat true) f)=g
 have QJ:∀ p f,fN s.o s.l (cf s.done) (fe s.o s.l st p) (so++[p]) (s.done.set p.Oper.toNat true) f=g p f:=fun p f=>by rw [← hg]
 generalize hT:me g L s.failed=T
 refine ⟨fun LL i a b c rows l d f=>L=LL∧0≤i∧i≤L.length∧a=s.o.au∧b=s.o.az∧c=s.o.aH∧rows=s.o.Rows∧l=s.l∧d=s.done∧me g (L.drop i.toNat) f=T,fun _ i _ _ _ _ _ _ _=>(L.length - i).toNat,⟨rfl,by omega,by omega,rfl,rfl,rfl,rfl,rfl,rfl,by simpa using hT⟩,?_⟩
 rintro _ i a b c rows l d f ⟨rfl,i0,i1,rfl,rfl,rfl,rfl,rfl,rfl,ht⟩
 refine ⟨fun hi=>?_,fun hi=>?_⟩
 ·have hi:=of_decide_eq_true hi
  obtain ⟨k,rfl⟩:=Int.eq_ofNat_of_zero_le i0
  obtain ⟨m0,m1,m2⟩:=rk _ (dB i0 hi)
  rw [show ((k:Nat):Int).toNat=k by omega,hX (l:=L) (i:=k) (by omega)] at ht
  have PL:me g (gi L (k:Int) :: L.drop (k+1)) f=if (g (gi L (k:Int)) f).1.2 then g (gi L (k:Int)) f else me g (L.drop (k+1)) (g (gi L (k:Int)) f).2:=rfl
  rw [PL] at ht
  rw [wrp (n:=((k:Nat):Int)+1) (by omega) (by omega)]
  have hk:Bw (gi L (k:Int)) (⟨(⟨s.o.au,s.o.az,s.o.aH,s.o.Rows⟩:aj),s.l,s.done,f⟩:Sk) st so=g (gi L (k:Int)) f:=QJ _ _
  have hS:bj (gi L (k:Int)) (⟨(⟨s.o.au,s.o.az,s.o.aH,s.o.Rows⟩:aj),s.l,s.done,f⟩:Sk) st so=((g (gi L (k:Int)) f).1.1,(g (gi L (k:Int)) f).1.2,⟨s.o,s.l,s.done,(g (gi L (k:Int)) f).2⟩):=by
   unfold bj; rw [hk]
  refine ⟨⟨i0,hi⟩,⟨⟨⟨w1,w2,w3⟩,hl,m0,m1,m2⟩,by show 2 * cf s.done < N; omega⟩,?_⟩
  rw [hS]
  rintro _ rfl
  intro _ _ _ _
  refine ⟨fun h3=>?_,fun h3=>⟨⟨rfl,by omega,by omega,rfl,rfl,rfl,rfl,rfl,rfl,?_⟩,by first | omega | (dsimp only; omega)⟩⟩
  ·have h3:(g (gi L (k:Int)) f).1.2=true:=h3
   rw [if_pos h3] at ht
   rw [← ht,if_pos h3]
   show (_,true,_)=(_,(g (gi L (k:Int)) f).1.2,_)
   rw [h3]
  ·have h3:(g (gi L (k:Int)) f).1.2=false:=h3
   rw [if_neg (by simp [h3])] at ht
   rw [show (((k:Nat):Int)+1).toNat=k+1 by omega]
   exact ht
 ·have hi:=of_decide_eq_false hi
  rw [List.drop_eq_nil_of_le (by omega)] at ht
  have ht:(([],false),f)=T:=ht
  rw [← ht,if_neg (by simp)]
  unfold VC90_J1 VC90_J2 oA
  refine ⟨fun h3=>?_,fun h3=>?_⟩
  ·have h3:¬ ((iV s.done st).done=0∧(iV s.done st).state=0):=by
    intro e; rw [e.1,e.2] at h3; simp at h3
   simp only [if_neg h3]
  ·have h3:(iV s.done st).done=0∧(iV s.done st).state=0:=by simpa using h3
   simp only [if_pos h3]
theorem v89 (o:aj) (l:List ab) (hp:yG o l):VC89 o l (fun r=>r=bH o l):=by
 intro _ _
 have hp:l.length≤1000000:=hp
 exact ⟨⟨by omega,by omega,by omega⟩,rfl⟩
theorem ye {α:Type} {m:Nat} {g:aa→α→(List aa × Bool) × α}:∀ (L:List aa) (f:α),(∀ p∈L,∀ f,(g p f).1.1.length≤m)→(me g L f).1.1.length≤m
 | [],f,_=>by simp [me]
 | p :: L,f,h=>by
  unfold me
  split
  ·exact h p (by simp) f
  ·exact ye L _ (fun q hq=>h q (by simp [hq]))
theorem sZ (o:aj) (l:List ab):∀ (n:Nat) (st:Int) (so:List aa) (done:List Bool) (f:Fm),(fN o l n st so done f).1.1.length≤so.length+n
 | 0,st,so,done,f=>by simp [fN]
 | n+1,st,so,done,f=>by
  have ht:=ye (m:=so.length+(n+1)) (g:=fun p f=>fN o l n (fe o l st p) (so++[p]) (done.set p.Oper.toNat true) f) (bM o l st done) f (fun p _ f=>by
   have:=sZ o l n (fe o l st p) (so++[p]) (done.set p.Oper.toNat true) f
   simp only [List.length_append,List.length_cons,List.length_nil] at this
   omega)
  unfold fN
  split
  ·simp
  ·split
   ·simp
   ·split
    ·exact ht
    ·simp
theorem lU {o:aj} {l:List ab} {m:Int} (h:cD o l m=0):(bB o).2=0∧(c7 l).2=0∧(l.length:Int)≤m:=by
 unfold cD at h
 by_cases h1:(bB o).2≠0∨(c7 l).2≠0
 ·rw [if_pos h1] at h; simp at h
 ·rw [if_neg h1] at h
  by_cases h2:(l.length:Int) > m
  ·rw [if_pos h2] at h; simp at h
  ·exact ⟨by omega,by omega,by omega⟩
theorem v70 (o:aj) (l:List ab) (hp:ym o l):VC70 o l (fun r=>r=bn o l):=by
 intro _ _
 refine ⟨hp,?_⟩
 rintro _ rfl
 unfold bn
 refine ⟨fun h=>?_,fun h=>?_⟩
 ·rw [if_pos (bne_iff_ne.1 h)]
 have h:cD o l 20=0:=by rw [bne_eq_false_iff_eq] at h; exact h
 obtain ⟨c1,c2,c3⟩:=lU h
 rw [if_neg (by simp [h])]
 refine ⟨by show l.length≤1000000; omega,?_⟩
 rintro _ rfl
 intro _ _ _
 have S5:=JC (bH o l).done
 have QP:(bH o l).done.length=l.length:=by simp [bH]
 refine ⟨⟨⟨QP,by show l.length≤20; omega,hp⟩,by simp; omega⟩,?_⟩
 rintro _ rfl
 intro _ _ _ _
 have hlen:=sZ (bH o l).o (bH o l).l (cf (bH o l).done+1) o.aH [] (bH o l).done (bH o l).failed
 have hlen:(jH (bH o l) o.aH []).1.1.length≤0+(cf (bH o l).done+1):=hlen
 unfold aK VC70_J1
 generalize jH (bH o l) o.aH []=q at *
 refine ⟨fun h2=>?_,fun h2=>?_⟩
 ·have h2:q.1.2=false:=by simpa using h2
  rw [if_pos (.inl h2)]
  exact ⟨fun _=>rfl,fun h=>by cases h⟩
 ·have h2:q.1.2=true:=by simpa using h2
  refine ⟨⟨hp,by show q.1.1.length≤1000000; omega⟩,?_⟩
  rintro _ rfl
  refine ⟨fun h3=>?_,fun h3=>?_⟩
  ·rw [if_pos (.inr (by simpa using h3))]
  ·have h3:dt o l q.1.1=true:=by simpa using h3
   rw [if_neg (by simp [h2,h3])]
theorem CN (n:Nat):cf (List.replicate n false)=n:=by
 unfold cf; simp
end Go.Proofs.YteahldlmkheleaaGreat
