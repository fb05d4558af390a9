/- Mx linearizations,pairs and what is sS,as the code xX them. -/
import Derived.Test.YteahldlmkheleaaGreatLV17
set_option linter.all false
namespace Go.Proofs.YteahldlmkheleaaGreat
open Go Go.Sv Go.Pu
def iu (of:List Int) (k:Int) (t:Nat):List Int:=((List.range t).filter fun i:Nat=>gi of (i:Int) == k).map fun i:Nat=>(i:Int)
theorem g8 (of:List Int) (k:Int) (t:Nat):iu of k (t+1)=iu of k t++(if (gi of (t:Int) == k)=true then [(t:Int)] else []):=by
 unfold iu
 rw [List.range_succ,List.filter_append,List.map_append,List.filter_cons,List.filter_nil]
 split <;> rfl
theorem nq (of:List Int) (k:Int) (t:Nat):(iu of k t).length≤t:=by
 unfold iu
 rw [List.length_map]
 have:=List.length_filter_le (fun i:Nat=>gi of (i:Int) == k) (List.range t)
 rw [List.length_range] at this; exact this
theorem n6 {of:List Int} {k:Int} {t:Nat} {i:Int}:i∈iu of k t↔0≤i∧i < t∧gi of i=k:=by
 unfold iu
 rw [List.mem_map]
 constructor
 ·rintro ⟨j,hj,rfl⟩
  rw [List.mem_filter,List.mem_range] at hj
  exact ⟨by omega,by omega,by simpa using hj.2⟩
 ·rintro ⟨h0,h1,h2⟩
  obtain ⟨n,rfl⟩:=Int.eq_ofNat_of_zero_le h0
  exact ⟨n,by rw [List.mem_filter,List.mem_range]; exact ⟨by omega,by simpa using h2⟩,rfl⟩
theorem qb (k x:Int):∀ (l:List Int) (i:Int),gG k (l++[x]) i=gG k l i++(if (x == k)=true then [i+l.length] else [])
 | [],i=>by simp [gG]
 | y :: l,i=>by
  rw [List.cons_append,gG,gG,qb k x l (i+1)]
  have e:i+1+(l.length:Int)=i+((y :: l).length:Int):=by simp only [List.length_cons]; push_cast; omega
  rw [e]
  split <;> rfl
theorem qa (of:List Int) (k:Int):∀ t:Nat,t≤of.length→gG k (of.take t) 0=iu of k t
 | 0,_=>rfl
 | t+1,h=>by
  rw [e9 (by omega),qb,qa of k t (by omega),g8]
  have e:(0:Int)+((of.take t).length:Int)=(t:Int):=by rw [List.length_take]; omega
  rw [e]
theorem fZ (of:List Int) (k:Int):aP of k=iu of k of.length:=by
 have:=qa of k of.length (by omega)
 rwa [List.take_length] at this
theorem DW (l:List ab) (of:List Int) (k:Int):∀ t:Nat,t≤l.length→gx (fun i=>dC i of k) (l.take t) 0=(iu of k t).map (gi l)
 | 0,_=>rfl
 | t+1,h=>by
  rw [kW _ (by omega),DW l of k t (by omega),g8,List.map_append]
  unfold dC
  split <;> rfl
theorem lL {l:List ab} {of:List Int} (hl:l.length=of.length) (k:Int):dp l of k=(aP of k).map (gi l):=by
 have:=DW l of k l.length (by omega)
 rw [List.take_length,hl] at this
 rw [fZ]; exact this
theorem v41 (h:ak) (hp:fQ h):VC41 h (fun r=>r=cd h):=by
 unfold VC41
 intro _ _
 refine ⟨hp,?_⟩
 rintro _ rfl
 unfold cd
 refine ⟨fun hb=>by rw [if_pos (by simpa using hb)],fun hb=>⟨hp,?_⟩⟩
 have hb:(aB h).2=0:=by simpa using hb
 rintro _ rfl _ _
 have e:cA h=(bp h,ofH h):=by unfold cA; rw [if_neg (by omega)]
 rw [e,if_neg (by omega)]
 exact ⟨fun h1=>by rw [if_pos (by simp at h1; omega)],fun h1=>by rw [if_neg (by simp at h1; omega)]⟩
theorem v69 (of:List Int) (k:Int) (hp:rq of k):VC69 of k (fun r=>r=aP of k):=by
 unfold VC69 rq at *
 intro _
 refine ⟨fun out x=>∃ t:Nat,x=t∧t≤of.length∧out=iu of k t,fun _ x=>(of.length - x).toNat,⟨0,rfl,by omega,rfl⟩,?_⟩
 rintro _ _ ⟨t,rfl,ht,rfl⟩
 have hl:=nq of k t
 refine ⟨fun hi=>?_,fun hi=>?_⟩
 ·rw [decide_eq_true_eq] at hi
  have hw:=wrp (n:=(t:Int)+1) (by omega) (by omega)
  refine ⟨⟨by omega,hi⟩,fun hc=>⟨by simp; omega,?_⟩,fun hc=>?_⟩ <;> unfold VC69_J2 <;> rw [hw] <;> refine ⟨⟨t+1,by push_cast; rfl,by omega,?_⟩,by dsimp only; omega⟩
  ·rw [g8,if_pos hc]
  ·rw [g8,if_neg (by rw [hc]; decide),List.append_nil]
 ·rw [decide_eq_false_iff_not] at hi
  have:t=of.length:=by omega
  subst this
  exact (fZ of k).symm
theorem v72 (i:Int) (of:List Int) (k:Int) (hp:sB i of k):VC72 i of k (fun r=>r=dC i of k):=by
 intro _
 exact ⟨hp,rfl⟩
theorem v71_72 (l:List ab) (of:List Int) (k:Int) (hp:w9 l of k):VC71_72 l of k (fun r=>r=bC l of k):=by
 obtain ⟨o4,mt⟩:=hp
 unfold VC71_72
 intro _ _
 refine ⟨fun out x=>∃ t:Nat,x=t∧t≤l.length∧out=gx (fun i=>dC i of k) (l.take t) 0,fun _ x=>(l.length - x).toNat,⟨0,rfl,by omega,rfl⟩,?_⟩
 rintro _ _ ⟨t,rfl,ht,rfl⟩
 have hl:=mL (fun i=>dC i of k) l t
 refine ⟨fun hi=>?_,fun hi=>?_⟩
 ·rw [decide_eq_true_eq] at hi
  have hw:=wrp (n:=(t:Int)+1) (by omega) (by omega)
  have hs:=kW (fun i=>dC i of k) (l:=l) (k:=t) (by omega)
  refine ⟨⟨by omega,hi⟩,⟨by omega,by omega⟩,?_⟩
  rintro _ rfl
  refine ⟨fun hc=>⟨by simp; omega,?_⟩,fun hc=>?_⟩ <;> unfold VC71_72_J2 <;> rw [hw] <;> refine ⟨⟨t+1,by push_cast; rfl,by omega,?_⟩,by dsimp only; omega⟩
  ·rw [hs,if_pos hc]
  ·rw [hs,if_neg (by rw [show dC (t:Int) of k=false from hc]; decide),List.append_nil]
 ·rw [decide_eq_false_iff_not] at hi
  unfold VC71_72_J1 bC
  rw [List.take_of_length_le (by omega)]
theorem uK {o:ah} {l:List ab} (h:(bj o l).2=0):cu o l 20=0∧dh o l (bj o l).1=true:=by
 rcases nh o l with ⟨h1,h2⟩ | ⟨_,_,h2⟩ | ⟨x,L,h1,h2,h3⟩
 ·rw [h2] at h; exact absurd h h1
 ·rw [h2] at h; cases h
 ·obtain ⟨c1,c2,_⟩:=lg h1
  refine ⟨h1,?_⟩
  rw [h3]
  exact (qj c1 c2 x).1 (by rw [h2]; exact List.mem_cons_self ..)
theorem lR {o:ah} {l:List ab} (h:(bj o l).2=0):(opers (bj o l).1).Nodup∧∀ x∈opers (bj o l).1,0≤x∧x < l.length:=pX (n8.1 (uK h).2).2.2.1
theorem nv {p:aa} {ps:List aa} (h:p∈ps):p.Oper∈opers ps:=by
 unfold opers; exact List.mem_map.2 ⟨p,h,rfl⟩
theorem rO {o:ah} {l:List ab} (h:(bj o l).2=0):(bj o l).1.length≤l.length:=by
 obtain ⟨h1,h2⟩:=lR h
 have:=lO (b:=(List.range l.length).map fun i:Nat=>(i:Int)) h1 (fun x hx=>by
  obtain ⟨a,b⟩:=h2 x hx
  exact List.mem_map.2 ⟨x.toNat,List.mem_range.2 (by omega),by omega⟩)
 rw [List.length_map,List.length_range] at this
 unfold opers at this
 rwa [List.length_map] at this
theorem CJ {own:List Int} {x:List aa} {t:Nat} (h:t < x.length):((x.take t).map (fR own)++x.drop t).set t (fR own (gi ((x.take t).map (fR own)++x.drop t) (t:Int)))=(x.take (t+1)).map (fR own)++x.drop (t+1):=by
 have hl:((x.take t).map (fR own)).length=t:=by rw [List.length_map,List.length_take]; omega
 have hg:gi ((x.take t).map (fR own)++x.drop t) (t:Int)=gi x (t:Int):=by
  rw [bS _ _ (by simp; omega),List.getElem_append_right (by omega),List.getElem_drop,bS _ _ h]
  congr 1; omega
 rw [hg,List.set_append_right _ _ (by omega),hl,Nat.sub_self,gJ h,List.set_cons_zero,e9 h,List.map_append,List.append_assoc]; rfl
theorem E9 {own:List Int} {x:List aa} {t:Nat} (h:t < x.length):gi ((x.take t).map (fR own)++x.drop t) (t:Int)=gi x (t:Int):=by
 have hl:((x.take t).map (fR own)).length=t:=by rw [List.length_map,List.length_take]; omega
 rw [bS _ _ (by simp; omega),List.getElem_append_right (by omega),List.getElem_drop,bS _ _ h]
 congr 1; omega
theorem pY {l:List ab} {of:List Int} {os:List ah} {t:Nat} (h:t < os.length) (out:List (List aa)):iM l of (os.drop t) t out=if (bj (gi os (t:Int)) (dp l of (t:Int))).2≠0 then ([],(bj (gi os (t:Int)) (dp l of (t:Int))).2) else iM l of (os.drop (t+1)) ((t:Int)+1) (out++[rowOf l of (gi os (t:Int)) (t:Int)]):=by
 rw [gJ h,iM]
theorem v42 (h:ak) (l:List ab) (of:List Int) (hp:w6 h l of):VC42 h l of (fun r=>r=cz h l of):=by
 obtain ⟨⟨o4,mt,xI⟩,Hv,Rm,Rl⟩:=hp
 unfold VC42
 intro xD _ _ _
 simp only [sm] at xD
 refine ⟨fun out x=>∃ t:Nat,x=t∧t≤h.ae.length∧out.length≤t∧iM l of (h.ae.drop t) t out=cz h l of,fun _ x=>(h.ae.length - x).toNat,⟨0,rfl,by omega,by simp,rfl⟩,?_⟩
 rintro out _ ⟨t,rfl,ht,Cl,hg⟩
 refine ⟨fun hi=>?_,fun hi=>?_⟩
 ·rw [decide_eq_true_eq] at hi
  have hw:=wrp (n:=(t:Int)+1) (by omega) (by omega)
  rw [pY (by omega)] at hg
  refine ⟨⟨by omega,hi⟩,fun _=>⟨by unfold rq; omega,?_⟩⟩
  rintro _ rfl _
  refine ⟨⟨by omega,by omega⟩,?_⟩
  rintro _ rfl _
  refine ⟨o4 _ (dq (by omega) hi),?_⟩
  rintro _ rfl _
  have OU:bC l of (t:Int)=dp l of (t:Int):=rfl
  rw [OU]
  refine ⟨fun he=>?_,fun he=>?_⟩
  ·rw [if_pos (show (bj (gi h.ae (t:Int)) (dp l of (t:Int))).2≠0 from by simpa using he)] at hg
   exact hg
  ·have he:(bj (gi h.ae (t:Int)) (dp l of (t:Int))).2=0:=by simpa using he
   rw [if_neg (by rw [he]; decide)] at hg
   have hin:=lR he
   have La:(dp l of (t:Int)).length=(aP of (t:Int)).length:=by rw [lL Hv,List.length_map]
   have Hw:(aP of (t:Int)).length≤1000000:=by rw [fZ]; have:=nq of (t:Int) of.length; omega
   have hfl:=rO he
   generalize hx:(bj (gi h.ae (t:Int)) (dp l of (t:Int))).1=x at *
   refine ⟨fun o2 p2 i=>o2=out∧∃ j:Nat,i=j∧j≤x.length∧p2=(x.take j).map (fR (aP of (t:Int)))++x.drop j,fun _ _ i=>(x.length - i).toNat,⟨rfl,0,rfl,by omega,by simp⟩,?_⟩
   rintro _ _ _ ⟨rfl,j,rfl,hj,rfl⟩
   refine ⟨fun GH=>?_,fun GH=>?_⟩
   ·rw [decide_eq_true_eq] at GH
    have hlen:(((x.take j).map (fR (aP of (t:Int)))++x.drop j).length:Int)=x.length:=by simp; omega
    have Pg:=E9 (own:=aP of (t:Int)) (x:=x) (t:=j) (by omega)
    have vp:=hin.2 (gi x (j:Int)).Oper (nv (dq (by omega) GH))
    have OE:=CJ (own:=aP of (t:Int)) (x:=x) (t:=j) (by omega)
    rw [wrp (n:=(j:Int)+1) (by omega) (by omega),show ((j:Int)).toNat=j by omega]
    refine ⟨by omega,by rw [Pg]; omega,by omega,⟨rfl,j+1,by push_cast; rfl,by omega,?_⟩,by dsimp only; omega⟩
    rw [← OE]; rfl
   ·rw [decide_eq_false_iff_not] at GH
    have:j=x.length:=by omega
    subst this
    unfold VC42_J2
    rw [hw,List.take_length,List.drop_length,List.append_nil]
    refine ⟨by simp; omega,⟨t+1,by push_cast; rfl,by omega,by simp; omega,?_⟩,by dsimp only; omega⟩
    rw [← hg,← hx]
    push_cast
    rfl
 ·rw [decide_eq_false_iff_not] at hi
  have:t=h.ae.length:=by omega
  subst this
  rw [List.drop_length,iM] at hg
  exact hg
theorem v91 (n:Int) (hp:xi n):VC91 n (fun r=>r=cj n):=by
 obtain ⟨h0,h1⟩:=hp
 unfold VC91
 refine ⟨fun h=>by simp at h; omega,fun _=>?_⟩
 rw [show IntKind.i64.wrap (0 - 0)=0 by rw [wrp] <;> omega,Int.sub_zero,wrp (by omega) (by omega)]
 refine ⟨fun h=>?_,fun h=>rfl⟩
 rw [decide_eq_true_eq] at h
 exact ⟨⟨by omega,by simp⟩,⟨h,by omega⟩,⟨by omega,by omega⟩,by unfold VC91_J1; simp [cj]⟩
theorem kN {L:List (List aa)} {t:Nat} (h:t < L.length):(L.take (t+1)).flatten=(L.take t).flatten++gi L (t:Int):=by
 rw [e9 h,List.flatten_append]; simp
theorem nB (L:List (List aa)) (t:Nat):(L.take t).flatten.length≤L.flatten.length:=by
 have:L.flatten=(L.take t).flatten++(L.drop t).flatten:=by rw [← List.flatten_append,List.take_append_drop]
 rw [this]; simp
theorem v73 (L:List (List aa)) (hp:ru L):VC73 L (fun r=>r=b8 L):=by
 unfold VC73 ru at *
 intro hs
 simp only [sm] at hs
 refine ⟨fun n x=>∃ t:Nat,x=t∧t≤L.length∧n=((L.take t).flatten.length:Int),fun _ x=>(L.length - x).toNat,⟨0,rfl,by omega,rfl⟩,?_⟩
 rintro _ _ ⟨t,rfl,ht,rfl⟩
 have hle:=nB L t
 refine ⟨fun hi=>?_,fun hi=>?_⟩
 ·rw [decide_eq_true_eq] at hi
  have h1:=nB L (t+1)
  have h2:=kN (L:=L) (t:=t) (by omega)
  rw [h2,List.length_append] at h1
  rw [wrp (n:=(t:Int)+1) (by omega) (by omega),wrp (n:=((L.take t).flatten.length:Int)+((gi L (t:Int)).length:Int)) (by omega) (by omega)]
  refine ⟨⟨by omega,hi⟩,fun _=>⟨fun h=>by simp at h; omega,fun _=>⟨⟨t+1,by push_cast; rfl,by omega,by rw [h2,List.length_append]; push_cast; rfl⟩,by dsimp only; omega⟩⟩⟩
 ·rw [decide_eq_false_iff_not] at hi
  unfold VC73_J1
  refine ⟨⟨by omega,by omega⟩,?_⟩
  rintro _ rfl _
  refine ⟨fun out x=>∃ u:Nat,x=u∧u≤L.length∧out=(L.take u).flatten,fun _ x=>(L.length - x).toNat,⟨0,rfl,by omega,rfl⟩,?_⟩
  rintro _ _ ⟨u,rfl,hu,rfl⟩
  refine ⟨fun hi=>?_,fun hi=>?_⟩
  ·rw [decide_eq_true_eq] at hi
   have h1:=nB L (u+1)
   have h2:=kN (L:=L) (t:=u) (by omega)
   rw [h2,List.length_append] at h1
   rw [wrp (n:=(u:Int)+1) (by omega) (by omega)]
   exact ⟨⟨by omega,hi⟩,fun _=>⟨by omega,⟨u+1,by push_cast; rfl,by omega,h2.symm⟩,by dsimp only; omega⟩⟩
  ·rw [decide_eq_false_iff_not] at hi
   unfold VC73_J2 b8
   rw [List.take_of_length_le (by omega)]
end Go.Proofs.YteahldlmkheleaaGreat
