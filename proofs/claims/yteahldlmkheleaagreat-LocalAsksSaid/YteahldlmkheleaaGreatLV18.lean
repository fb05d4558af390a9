/- Lemmas. -/
import Derived.Test.YteahldlmkheleaaGreatLV17
set_option linter.all false
namespace Go.Proofs.YteahldlmkheleaaGreat
open Go Go.Sv Go.Pu
def jX (of:List Int) (k:Int) (t:Nat):List Int:=((List.range t).filter fun i:Nat=>gi of (i:Int) == k).map fun i:Nat=>(i:Int)
theorem fK (of:List Int) (k:Int) (t:Nat):jX of k (t+1)=jX of k t++(if (gi of (t:Int) == k)=true then [(t:Int)] else []):=by
 unfold jX
 rw [List.range_succ,List.filter_append,List.map_append,List.filter_cons,List.filter_nil]
 split <;> rfl
theorem nT (of:List Int) (k:Int) (t:Nat):(jX of k t).length≤t:=by
 unfold jX
 rw [List.length_map]
 have:=List.length_filter_le (fun i:Nat=>gi of (i:Int) == k) (List.range t)
 rw [List.length_range] at this; exact this
theorem oM {of:List Int} {k:Int} {t:Nat} {i:Int}:i∈jX of k t↔0≤i∧i < t∧gi of i=k:=by
 unfold jX
 rw [List.mem_map]
 constructor
 ·rintro ⟨j,hj,rfl⟩
  rw [List.mem_filter,List.mem_range] at hj
  exact ⟨by omega,by omega,by simpa using hj.2⟩
 ·rintro ⟨h0,h1,h2⟩
  obtain ⟨n,rfl⟩:=Int.eq_ofNat_of_zero_le h0
  exact ⟨n,by rw [List.mem_filter,List.mem_range]; exact ⟨by omega,by simpa using h2⟩,rfl⟩
theorem qE (k x:Int):∀ (l:List Int) (i:Int),gP k (l++[x]) i=gP k l i++(if (x == k)=true then [i+l.length] else [])
 | [],i=>by simp [gP]
 | y :: l,i=>by
  rw [List.cons_append,gP,gP,qE k x l (i+1)]
  have e:i+1+(l.length:Int)=i+((y :: l).length:Int):=by simp only [List.length_cons]; push_cast; omega
  rw [e]
  split <;> rfl
theorem qD (of:List Int) (k:Int):∀ t:Nat,t≤of.length→gP k (of.take t) 0=jX of k t
 | 0,_=>rfl
 | t+1,h=>by
  rw [eJ (by omega),qE,qD of k t (by omega),fK]
  have e:(0:Int)+((of.take t).length:Int)=(t:Int):=by rw [List.length_take]; omega
  rw [e]
theorem hY (of:List Int) (k:Int):bo of k=jX of k of.length:=by
 have:=qD of k of.length (by omega)
 rwa [List.take_length] at this
theorem E7 (l:List ab) (of:List Int) (k:Int):∀ t:Nat,t≤l.length→gb (fun i=>dp i of k) (l.take t) 0=(jX of k t).map (gi l)
 | 0,_=>rfl
 | t+1,h=>by
  rw [lI _ (by omega),E7 l of k t (by omega),fK,List.map_append]
  unfold dp
  split <;> rfl
theorem nj {l:List ab} {of:List Int} (hl:l.length=of.length) (k:Int):dm l of k=(bo of k).map (gi l):=by
 have:=E7 l of k l.length (by omega)
 rw [List.take_length,hl] at this
 rw [hY]; exact this
theorem v41 (h:ak) (hp:gg h):VC41 h (fun r=>r=cq h):=by
 unfold VC41
 intro _ _
 refine ⟨hp,?_⟩
 rintro _ rfl
 unfold cq
 refine ⟨fun hb=>by rw [if_pos (by simpa using hb)],fun hb=>⟨hp,?_⟩⟩
 have hb:(aB h).2=0:=by simpa using hb
 rintro _ rfl _ _
 have e:cV h=(bB h,ofH h):=by unfold cV; rw [if_neg (by omega)]
 rw [e,if_neg (by omega)]
 exact ⟨fun h1=>by rw [if_pos (by simp at h1; omega)],fun h1=>by rw [if_neg (by simp at h1; omega)]⟩
theorem v69 (of:List Int) (k:Int) (hp:r6 of k):VC69 of k (fun r=>r=bo of k):=by
 unfold VC69 r6 at *
 intro _
 refine ⟨fun out x=>∃ t:Nat,x=t∧t≤of.length∧out=jX of k t,fun _ x=>(of.length - x).toNat,⟨0,rfl,by omega,rfl⟩,?_⟩
 rintro _ _ ⟨t,rfl,ht,rfl⟩
 have hl:=nT of k t
 refine ⟨fun hi=>?_,fun hi=>?_⟩
 ·rw [decide_eq_true_eq] at hi
  have hw:=wrp (n:=(t:Int)+1) (by omega) (by omega)
  refine ⟨⟨by omega,hi⟩,fun hc=>⟨by simp; omega,?_⟩,fun hc=>?_⟩ <;> unfold VC69_J2 <;> rw [hw] <;> refine ⟨⟨t+1,by push_cast; rfl,by omega,?_⟩,by dsimp only; omega⟩
  ·rw [fK,if_pos hc]
  ·rw [fK,if_neg (by rw [hc]; decide),List.append_nil]
 ·rw [decide_eq_false_iff_not] at hi
  have:t=of.length:=by omega
  subst this
  exact (hY of k).symm
theorem v72 (i:Int) (of:List Int) (k:Int) (hp:tq i of k):VC72 i of k (fun r=>r=dp i of k):=by
 intro _
 exact ⟨hp,rfl⟩
theorem v71_72 (l:List ab) (of:List Int) (k:Int) (hp:x7 l of k):VC71_72 l of k (fun r=>r=bw l of k):=by
 obtain ⟨oD,mq⟩:=hp
 unfold VC71_72
 intro _ _
 refine ⟨fun out x=>∃ t:Nat,x=t∧t≤l.length∧out=gb (fun i=>dp i of k) (l.take t) 0,fun _ x=>(l.length - x).toNat,⟨0,rfl,by omega,rfl⟩,?_⟩
 rintro _ _ ⟨t,rfl,ht,rfl⟩
 have hl:=nm (fun i=>dp i of k) l t
 refine ⟨fun hi=>?_,fun hi=>?_⟩
 ·rw [decide_eq_true_eq] at hi
  have hw:=wrp (n:=(t:Int)+1) (by omega) (by omega)
  have hs:=lI (fun i=>dp i of k) (l:=l) (k:=t) (by omega)
  refine ⟨⟨by omega,hi⟩,⟨by omega,by omega⟩,?_⟩
  rintro _ rfl
  refine ⟨fun hc=>⟨by simp; omega,?_⟩,fun hc=>?_⟩ <;> unfold VC71_72_J2 <;> rw [hw] <;> refine ⟨⟨t+1,by push_cast; rfl,by omega,?_⟩,by dsimp only; omega⟩
  ·rw [hs,if_pos hc]
  ·rw [hs,if_neg (by rw [show dp (t:Int) of k=false from hc]; decide),List.append_nil]
 ·rw [decide_eq_false_iff_not] at hi
  unfold VC71_72_J1 bw
  rw [List.take_of_length_le (by omega)]
theorem vx {o:ae} {l:List ab} (h:(bk o l).2=0):cy o l 20=0∧c9 o l (bk o l).1=true:=by
 rcases nL o l with ⟨h1,h2⟩ | ⟨_,_,h2⟩ | ⟨x,L,h1,h2,h3⟩
 ·rw [h2] at h; exact absurd h h1
 ·rw [h2] at h; cases h
 ·obtain ⟨c1,c2,_⟩:=lQ h1
  refine ⟨h1,?_⟩
  rw [h3]
  exact (qL c1 c2 x).1 (by rw [h2]; exact List.mem_cons_self ..)
theorem mu {o:ae} {l:List ab} (h:(bk o l).2=0):(opers (bk o l).1).Nodup∧∀ x∈opers (bk o l).1,0≤x∧x < l.length:=ln (oO.1 (vx h).2).2.2.1
theorem lq {p:aa} {ps:List aa} (h:p∈ps):p.Oper∈opers ps:=by
 unfold opers; exact List.mem_map.2 ⟨p,h,rfl⟩
theorem sD {o:ae} {l:List ab} (h:(bk o l).2=0):(bk o l).1.length≤l.length:=by
 obtain ⟨h1,h2⟩:=mu h
 have:=nU (b:=(List.range l.length).map fun i:Nat=>(i:Int)) h1 (fun x hx=>by
  obtain ⟨a,b⟩:=h2 x hx
  exact List.mem_map.2 ⟨x.toNat,List.mem_range.2 (by omega),by omega⟩)
 rw [List.length_map,List.length_range] at this
 unfold opers at this
 rwa [List.length_map] at this
theorem DQ {own:List Int} {x:List aa} {t:Nat} (h:t < x.length):((x.take t).map (kG own)++x.drop t).set t (kG own (gi ((x.take t).map (kG own)++x.drop t) (t:Int)))=(x.take (t+1)).map (kG own)++x.drop (t+1):=by
 have hl:((x.take t).map (kG own)).length=t:=by rw [List.length_map,List.length_take]; omega
 have hg:gi ((x.take t).map (kG own)++x.drop t) (t:Int)=gi x (t:Int):=by
  rw [cN _ _ (by simp; omega),List.getElem_append_right (by omega),List.getElem_drop,cN _ _ h]
  congr 1; omega
 rw [hg,List.set_append_right _ _ (by omega),hl,Nat.sub_self,fT h,List.set_cons_zero,eJ h,List.map_append,List.append_assoc]; rfl
theorem Gg {own:List Int} {x:List aa} {t:Nat} (h:t < x.length):gi ((x.take t).map (kG own)++x.drop t) (t:Int)=gi x (t:Int):=by
 have hl:((x.take t).map (kG own)).length=t:=by rw [List.length_map,List.length_take]; omega
 rw [cN _ _ (by simp; omega),List.getElem_append_right (by omega),List.getElem_drop,cN _ _ h]
 congr 1; omega
theorem qp {l:List ab} {of:List Int} {os:List ae} {t:Nat} (h:t < os.length) (out:List (List aa)):jb l of (os.drop t) t out=if (bk (gi os (t:Int)) (dm l of (t:Int))).2≠0 then ([],(bk (gi os (t:Int)) (dm l of (t:Int))).2) else jb l of (os.drop (t+1)) ((t:Int)+1) (out++[rowOf l of (gi os (t:Int)) (t:Int)]):=by
 rw [fT h,jb]
theorem v42 (h:ak) (l:List ab) (of:List Int) (hp:x3 h l of):VC42 h l of (fun r=>r=cC h l of):=by
 obtain ⟨⟨oD,mq,yG⟩,Me,Sf,Se⟩:=hp
 unfold VC42
 intro xp _ _ _
 simp only [sm] at xp
 refine ⟨fun out x=>∃ t:Nat,x=t∧t≤h.ah.length∧out.length≤t∧jb l of (h.ah.drop t) t out=cC h l of,fun _ x=>(h.ah.length - x).toNat,⟨0,rfl,by omega,by simp,rfl⟩,?_⟩
 rintro out _ ⟨t,rfl,ht,Ab,hg⟩
 refine ⟨fun hi=>?_,fun hi=>?_⟩
 ·rw [decide_eq_true_eq] at hi
  have hw:=wrp (n:=(t:Int)+1) (by omega) (by omega)
  rw [qp (by omega)] at hg
  refine ⟨⟨by omega,hi⟩,fun _=>⟨by unfold r6; omega,?_⟩⟩
  rintro _ rfl _
  refine ⟨⟨by omega,by omega⟩,?_⟩
  rintro _ rfl _
  refine ⟨oD _ (e7 (by omega) hi),?_⟩
  rintro _ rfl _
  have PQ:bw l of (t:Int)=dm l of (t:Int):=rfl
  rw [PQ]
  refine ⟨fun he=>?_,fun he=>?_⟩
  ·rw [if_pos (show (bk (gi h.ah (t:Int)) (dm l of (t:Int))).2≠0 from by simpa using he)] at hg
   exact hg
  ·have he:(bk (gi h.ah (t:Int)) (dm l of (t:Int))).2=0:=by simpa using he
   rw [if_neg (by rw [he]; decide)] at hg
   have mt:=mu he
   have Mi:(dm l of (t:Int)).length=(bo of (t:Int)).length:=by rw [nj Me,List.length_map]
   have IJ:(bo of (t:Int)).length≤1000000:=by rw [hY]; have:=nT of (t:Int) of.length; omega
   have hfl:=sD he
   generalize hx:(bk (gi h.ah (t:Int)) (dm l of (t:Int))).1=x at *
   refine ⟨fun o2 p2 i=>o2=out∧∃ j:Nat,i=j∧j≤x.length∧p2=(x.take j).map (kG (bo of (t:Int)))++x.drop j,fun _ _ i=>(x.length - i).toNat,⟨rfl,0,rfl,by omega,by simp⟩,?_⟩
   rintro _ _ _ ⟨rfl,j,rfl,hj,rfl⟩
   refine ⟨fun Ch=>?_,fun Ch=>?_⟩
   ·rw [decide_eq_true_eq] at Ch
    have hlen:(((x.take j).map (kG (bo of (t:Int)))++x.drop j).length:Int)=x.length:=by simp; omega
    have Qb:=Gg (own:=bo of (t:Int)) (x:=x) (t:=j) (by omega)
    have wg:=mt.2 (gi x (j:Int)).Oper (lq (e7 (by omega) Ch))
    have PG:=DQ (own:=bo of (t:Int)) (x:=x) (t:=j) (by omega)
    rw [wrp (n:=(j:Int)+1) (by omega) (by omega),show ((j:Int)).toNat=j by omega]
    refine ⟨by omega,by rw [Qb]; omega,by omega,⟨rfl,j+1,by push_cast; rfl,by omega,?_⟩,by dsimp only; omega⟩
    rw [← PG]; rfl
   ·rw [decide_eq_false_iff_not] at Ch
    have:j=x.length:=by omega
    subst this
    unfold VC42_J2
    rw [hw,List.take_length,List.drop_length,List.append_nil]
    refine ⟨by simp; omega,⟨t+1,by push_cast; rfl,by omega,by simp; omega,?_⟩,by dsimp only; omega⟩
    rw [← hg,← hx]
    push_cast
    rfl
 ·rw [decide_eq_false_iff_not] at hi
  have:t=h.ah.length:=by omega
  subst this
  rw [List.drop_length,jb] at hg
  exact hg
theorem v91 (n:Int) (hp:yh n):VC91 n (fun r=>r=ct n):=by
 obtain ⟨h0,h1⟩:=hp
 unfold VC91
 refine ⟨fun h=>by simp at h; omega,fun _=>?_⟩
 rw [show IntKind.i64.wrap (0 - 0)=0 by rw [wrp] <;> omega,Int.sub_zero,wrp (by omega) (by omega)]
 refine ⟨fun h=>?_,fun h=>rfl⟩
 rw [decide_eq_true_eq] at h
 exact ⟨⟨by omega,by simp⟩,⟨h,by omega⟩,⟨by omega,by omega⟩,by unfold VC91_J1; simp [ct]⟩
theorem lx {L:List (List aa)} {t:Nat} (h:t < L.length):(L.take (t+1)).flatten=(L.take t).flatten++gi L (t:Int):=by
 rw [eJ h,List.flatten_append]; simp
theorem n8 (L:List (List aa)) (t:Nat):(L.take t).flatten.length≤L.flatten.length:=by
 have:L.flatten=(L.take t).flatten++(L.drop t).flatten:=by rw [← List.flatten_append,List.take_append_drop]
 rw [this]; simp
theorem v73 (L:List (List aa)) (hp:r9 L):VC73 L (fun r=>r=cd L):=by
 unfold VC73 r9 at *
 intro hs
 simp only [sm] at hs
 refine ⟨fun n x=>∃ t:Nat,x=t∧t≤L.length∧n=((L.take t).flatten.length:Int),fun _ x=>(L.length - x).toNat,⟨0,rfl,by omega,rfl⟩,?_⟩
 rintro _ _ ⟨t,rfl,ht,rfl⟩
 have hle:=n8 L t
 refine ⟨fun hi=>?_,fun hi=>?_⟩
 ·rw [decide_eq_true_eq] at hi
  have h1:=n8 L (t+1)
  have h2:=lx (L:=L) (t:=t) (by omega)
  rw [h2,List.length_append] at h1
  rw [wrp (n:=(t:Int)+1) (by omega) (by omega),wrp (n:=((L.take t).flatten.length:Int)+((gi L (t:Int)).length:Int)) (by omega) (by omega)]
  refine ⟨⟨by omega,hi⟩,fun _=>⟨fun h=>by simp at h; omega,fun _=>⟨⟨t+1,by push_cast; rfl,by omega,by rw [h2,List.length_append]; push_cast; rfl⟩,by dsimp only; omega⟩⟩⟩
 ·rw [decide_eq_false_iff_not] at hi
  unfold VC73_J1
  refine ⟨⟨by omega,by omega⟩,?_⟩
  rintro _ rfl _
  refine ⟨fun out x=>∃ u:Nat,x=u∧u≤L.length∧out=(L.take u).flatten,fun _ x=>(L.length - x).toNat,⟨0,rfl,by omega,rfl⟩,?_⟩
  rintro _ _ ⟨u,rfl,hu,rfl⟩
  refine ⟨fun hi=>?_,fun hi=>?_⟩
  ·rw [decide_eq_true_eq] at hi
   have h1:=n8 L (u+1)
   have h2:=lx (L:=L) (t:=u) (by omega)
   rw [h2,List.length_append] at h1
   rw [wrp (n:=(u:Int)+1) (by omega) (by omega)]
   exact ⟨⟨by omega,hi⟩,fun _=>⟨by omega,⟨u+1,by push_cast; rfl,by omega,h2.symm⟩,by dsimp only; omega⟩⟩
  ·rw [decide_eq_false_iff_not] at hi
   unfold VC73_J2 cd
   rw [List.take_of_length_le (by omega)]
end Go.Proofs.YteahldlmkheleaaGreat
