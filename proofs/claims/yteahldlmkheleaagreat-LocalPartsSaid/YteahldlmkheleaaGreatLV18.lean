/- Parts' linearizations, pairs and what is joined, as the code finds them. -/
import Derived.Test.YteahldlmkheleaaGreatLV17
set_option linter.all false
namespace Go.Proofs.YteahldlmkheleaaGreat
open Go Go.Sv Go.Pu
def iU (of:List Int) (k:Int) (t:Nat):List Int:=((List.range t).filter fun i:Nat=>gi of (i:Int) == k).map fun i:Nat=>(i:Int)
theorem iy (of:List Int) (k:Int) (t:Nat):iU of k (t+1)=iU of k t++(if (gi of (t:Int) == k)=true then [(t:Int)] else []):=by
 unfold iU
 rw [List.range_succ,List.filter_append,List.map_append,List.filter_cons,List.filter_nil]
 split <;> rfl
theorem oc (of:List Int) (k:Int) (t:Nat):(iU of k t).length≤t:=by
 unfold iU
 rw [List.length_map]
 have:=List.length_filter_le (fun i:Nat=>gi of (i:Int) == k) (List.range t)
 rw [List.length_range] at this; exact this
theorem oZ {of:List Int} {k:Int} {t:Nat} {i:Int}:i∈iU of k t↔0≤i∧i < t∧gi of i=k:=by
 unfold iU
 rw [List.mem_map]
 constructor
 ·rintro ⟨j,hj,rfl⟩
  rw [List.mem_filter,List.mem_range] at hj
  exact ⟨by omega,by omega,by simpa using hj.2⟩
 ·rintro ⟨h0,h1,h2⟩
  obtain ⟨n,rfl⟩:=Int.eq_ofNat_of_zero_le h0
  exact ⟨n,by rw [List.mem_filter,List.mem_range]; exact ⟨by omega,by simpa using h2⟩,rfl⟩
theorem qZ (k x:Int):∀ (l:List Int) (i:Int),hJ k (l++[x]) i=hJ k l i++(if (x == k)=true then [i+l.length] else [])
 | [],i=>by simp [hJ]
 | y :: l,i=>by
  rw [List.cons_append,hJ,hJ,qZ k x l (i+1)]
  have e:i+1+(l.length:Int)=i+((y :: l).length:Int):=by simp only [List.length_cons]; push_cast; omega
  rw [e]
  split <;> rfl
theorem qY (of:List Int) (k:Int):∀ t:Nat,t≤of.length→hJ k (of.take t) 0=iU of k t
 | 0,_=>rfl
 | t+1,h=>by
  rw [fy (by omega),qZ,qY of k t (by omega),iy]
  have e:(0:Int)+((of.take t).length:Int)=(t:Int):=by rw [List.length_take]; omega
  rw [e]
theorem gx (of:List Int) (k:Int):aS of k=iU of k of.length:=by
 have:=qY of k of.length (by omega)
 rwa [List.take_length] at this
theorem Fe (l:List ab) (of:List Int) (k:Int):∀ t:Nat,t≤l.length→gV (fun i=>dM i of k) (l.take t) 0=(iU of k t).map (gi l)
 | 0,_=>rfl
 | t+1,h=>by
  rw [lK _ (by omega),Fe l of k t (by omega),iy,List.map_append]
  unfold dM
  split <;> rfl
theorem my {l:List ab} {of:List Int} (hl:l.length=of.length) (k:Int):dA l of k=(aS of k).map (gi l):=by
 have:=Fe l of k l.length (by omega)
 rw [List.take_length,hl] at this
 rw [gx]; exact this
theorem v41 (h:al) (hp:gl h):VC41 h (fun r=>r=cq h):=by
 unfold VC41
 intro _ _
 refine ⟨hp,?_⟩
 rintro _ rfl
 unfold cq
 refine ⟨fun hb=>by rw [if_pos (by simpa using hb)],fun hb=>⟨hp,?_⟩⟩
 have hb:(aE h).2=0:=by simpa using hb
 rintro _ rfl _ _
 have e:cN h=(bz h,ofH h):=by unfold cN; rw [if_neg (by omega)]
 rw [e,if_neg (by omega)]
 exact ⟨fun h1=>by rw [if_pos (by simp at h1; omega)],fun h1=>by rw [if_neg (by simp at h1; omega)]⟩
theorem v69 (of:List Int) (k:Int) (hp:sw of k):VC69 of k (fun r=>r=aS of k):=by
 unfold VC69 sw at *
 intro _
 refine ⟨fun out x=>∃ t:Nat,x=t∧t≤of.length∧out=iU of k t,fun _ x=>(of.length - x).toNat,⟨0,rfl,by omega,rfl⟩,?_⟩
 rintro _ _ ⟨t,rfl,ht,rfl⟩
 have hl:=oc of k t
 refine ⟨fun hi=>?_,fun hi=>?_⟩
 ·rw [decide_eq_true_eq] at hi
  have hw:=wrp (n:=(t:Int)+1) (by omega) (by omega)
  refine ⟨⟨by omega,hi⟩,fun hc=>⟨by simp; omega,?_⟩,fun hc=>?_⟩ <;> unfold VC69_J2 <;> rw [hw] <;> refine ⟨⟨t+1,by push_cast; rfl,by omega,?_⟩,by dsimp only; omega⟩
  ·rw [iy,if_pos hc]
  ·rw [iy,if_neg (by rw [hc]; decide),List.append_nil]
 ·rw [decide_eq_false_iff_not] at hi
  have:t=of.length:=by omega
  subst this
  exact (gx of k).symm
theorem v72 (i:Int) (of:List Int) (k:Int) (hp:tK i of k):VC72 i of k (fun r=>r=dM i of k):=by
 intro _
 exact ⟨hp,rfl⟩
theorem v71_72 (l:List ab) (of:List Int) (k:Int) (hp:yr l of k):VC71_72 l of k (fun r=>r=bI l of k):=by
 obtain ⟨pZ,np⟩:=hp
 unfold VC71_72
 intro _ _
 refine ⟨fun out x=>∃ t:Nat,x=t∧t≤l.length∧out=gV (fun i=>dM i of k) (l.take t) 0,fun _ x=>(l.length - x).toNat,⟨0,rfl,by omega,rfl⟩,?_⟩
 rintro _ _ ⟨t,rfl,ht,rfl⟩
 have hl:=nG (fun i=>dM i of k) l t
 refine ⟨fun hi=>?_,fun hi=>?_⟩
 ·rw [decide_eq_true_eq] at hi
  have hw:=wrp (n:=(t:Int)+1) (by omega) (by omega)
  have hs:=lK (fun i=>dM i of k) (l:=l) (k:=t) (by omega)
  refine ⟨⟨by omega,hi⟩,⟨by omega,by omega⟩,?_⟩
  rintro _ rfl
  refine ⟨fun hc=>⟨by simp; omega,?_⟩,fun hc=>?_⟩ <;> unfold VC71_72_J2 <;> rw [hw] <;> refine ⟨⟨t+1,by push_cast; rfl,by omega,?_⟩,by dsimp only; omega⟩
  ·rw [hs,if_pos hc]
  ·rw [hs,if_neg (by rw [show dM (t:Int) of k=false from hc]; decide),List.append_nil]
 ·rw [decide_eq_false_iff_not] at hi
  unfold VC71_72_J1 bI
  rw [List.take_of_length_le (by omega)]
theorem vR {o:aj} {l:List ab} (h:(bn o l).2=0):cD o l 20=0∧dt o l (bn o l).1=true:=by
 rcases n6 o l with ⟨h1,h2⟩ | ⟨_,_,h2⟩ | ⟨x,L,h1,h2,h3⟩
 ·rw [h2] at h; exact absurd h h1
 ·rw [h2] at h; cases h
 ·obtain ⟨c1,c2,_⟩:=lU h1
  refine ⟨h1,?_⟩
  rw [h3]
  exact (re c1 c2 x).1 (by rw [h2]; exact List.mem_cons_self ..)
theorem mD {o:aj} {l:List ab} (h:(bn o l).2=0):(opers (bn o l).1).Nodup∧∀ x∈opers (bn o l).1,0≤x∧x < l.length:=qN (o4.1 (vR h).2).2.2.1
theorem oo {p:aa} {ps:List aa} (h:p∈ps):p.Oper∈opers ps:=by
 unfold opers; exact List.mem_map.2 ⟨p,h,rfl⟩
theorem sY {o:aj} {l:List ab} (h:(bn o l).2=0):(bn o l).1.length≤l.length:=by
 obtain ⟨h1,h2⟩:=mD h
 have:=mA (b:=(List.range l.length).map fun i:Nat=>(i:Int)) h1 (fun x hx=>by
  obtain ⟨a,b⟩:=h2 x hx
  exact List.mem_map.2 ⟨x.toNat,List.mem_range.2 (by omega),by omega⟩)
 rw [List.length_map,List.length_range] at this
 unfold opers at this
 rwa [List.length_map] at this
theorem D1 {own:List Int} {x:List aa} {t:Nat} (h:t < x.length):((x.take t).map (gm own)++x.drop t).set t (gm own (gi ((x.take t).map (gm own)++x.drop t) (t:Int)))=(x.take (t+1)).map (gm own)++x.drop (t+1):=by
 have hl:((x.take t).map (gm own)).length=t:=by rw [List.length_map,List.length_take]; omega
 have hg:gi ((x.take t).map (gm own)++x.drop t) (t:Int)=gi x (t:Int):=by
  rw [bZ _ _ (by simp; omega),List.getElem_append_right (by omega),List.getElem_drop,bZ _ _ h]
  congr 1; omega
 rw [hg,List.set_append_right _ _ (by omega),hl,Nat.sub_self,hX h,List.set_cons_zero,fy h,List.map_append,List.append_assoc]; rfl
theorem Gr {own:List Int} {x:List aa} {t:Nat} (h:t < x.length):gi ((x.take t).map (gm own)++x.drop t) (t:Int)=gi x (t:Int):=by
 have hl:((x.take t).map (gm own)).length=t:=by rw [List.length_map,List.length_take]; omega
 rw [bZ _ _ (by simp; omega),List.getElem_append_right (by omega),List.getElem_drop,bZ _ _ h]
 congr 1; omega
theorem qO {l:List ab} {of:List Int} {os:List aj} {t:Nat} (h:t < os.length) (out:List (List aa)):jo l of (os.drop t) t out=if (bn (gi os (t:Int)) (dA l of (t:Int))).2≠0 then ([],(bn (gi os (t:Int)) (dA l of (t:Int))).2) else jo l of (os.drop (t+1)) ((t:Int)+1) (out++[rowOf l of (gi os (t:Int)) (t:Int)]):=by
 rw [hX h,jo]
theorem v42 (h:al) (l:List ab) (of:List Int) (hp:yo h l of):VC42 h l of (fun r=>r=cM h l of):=by
 obtain ⟨⟨pZ,np,za⟩,IV,SY,SX⟩:=hp
 unfold VC42
 intro yV _ _ _
 simp only [sm] at yV
 refine ⟨fun out x=>∃ t:Nat,x=t∧t≤h.ae.length∧out.length≤t∧jo l of (h.ae.drop t) t out=cM h l of,fun _ x=>(h.ae.length - x).toNat,⟨0,rfl,by omega,by simp,rfl⟩,?_⟩
 rintro out _ ⟨t,rfl,ht,DC,hg⟩
 refine ⟨fun hi=>?_,fun hi=>?_⟩
 ·rw [decide_eq_true_eq] at hi
  have hw:=wrp (n:=(t:Int)+1) (by omega) (by omega)
  rw [qO (by omega)] at hg
  refine ⟨⟨by omega,hi⟩,fun _=>⟨by unfold sw; omega,?_⟩⟩
  rintro _ rfl _
  refine ⟨⟨by omega,by omega⟩,?_⟩
  rintro _ rfl _
  refine ⟨pZ _ (dB (by omega) hi),?_⟩
  rintro _ rfl _
  have Qo:bI l of (t:Int)=dA l of (t:Int):=rfl
  rw [Qo]
  refine ⟨fun he=>?_,fun he=>?_⟩
  ·rw [if_pos (show (bn (gi h.ae (t:Int)) (dA l of (t:Int))).2≠0 from by simpa using he)] at hg
   exact hg
  ·have he:(bn (gi h.ae (t:Int)) (dA l of (t:Int))).2=0:=by simpa using he
   rw [if_neg (by rw [he]; decide)] at hg
   have hin:=mD he
   have Mz:(dA l of (t:Int)).length=(aS of (t:Int)).length:=by rw [my IV,List.length_map]
   have IW:(aS of (t:Int)).length≤1000000:=by rw [gx]; have:=oc of (t:Int) of.length; omega
   have hfl:=sY he
   generalize hx:(bn (gi h.ae (t:Int)) (dA l of (t:Int))).1=x at *
   refine ⟨fun o2 p2 i=>o2=out∧∃ j:Nat,i=j∧j≤x.length∧p2=(x.take j).map (gm (aS of (t:Int)))++x.drop j,fun _ _ i=>(x.length - i).toNat,⟨rfl,0,rfl,by omega,by simp⟩,?_⟩
   rintro _ _ _ ⟨rfl,j,rfl,hj,rfl⟩
   refine ⟨fun HY=>?_,fun HY=>?_⟩
   ·rw [decide_eq_true_eq] at HY
    have hlen:(((x.take j).map (gm (aS of (t:Int)))++x.drop j).length:Int)=x.length:=by simp; omega
    have QK:=Gr (own:=aS of (t:Int)) (x:=x) (t:=j) (by omega)
    have wI:=hin.2 (gi x (j:Int)).Oper (oo (dB (by omega) HY))
    have Qa:=D1 (own:=aS of (t:Int)) (x:=x) (t:=j) (by omega)
    rw [wrp (n:=(j:Int)+1) (by omega) (by omega),show ((j:Int)).toNat=j by omega]
    refine ⟨by omega,by rw [QK]; omega,by omega,⟨rfl,j+1,by push_cast; rfl,by omega,?_⟩,by dsimp only; omega⟩
    rw [← Qa]; rfl
   ·rw [decide_eq_false_iff_not] at HY
    have:j=x.length:=by omega
    subst this
    unfold VC42_J2
    rw [hw,List.take_length,List.drop_length,List.append_nil]
    refine ⟨by simp; omega,⟨t+1,by push_cast; rfl,by omega,by simp; omega,?_⟩,by dsimp only; omega⟩
    rw [← hg,← hx]
    push_cast
    rfl
 ·rw [decide_eq_false_iff_not] at hi
  have:t=h.ae.length:=by omega
  subst this
  rw [List.drop_length,jo] at hg
  exact hg
theorem v91 (n:Int) (hp:yB n):VC91 n (fun r=>r=cu n):=by
 obtain ⟨h0,h1⟩:=hp
 unfold VC91
 refine ⟨fun h=>by simp at h; omega,fun _=>?_⟩
 rw [show IntKind.i64.wrap (0 - 0)=0 by rw [wrp] <;> omega,Int.sub_zero,wrp (by omega) (by omega)]
 refine ⟨fun h=>?_,fun h=>rfl⟩
 rw [decide_eq_true_eq] at h
 exact ⟨⟨by omega,by simp⟩,⟨h,by omega⟩,⟨by omega,by omega⟩,by unfold VC91_J1; simp [cu]⟩
theorem lB {L:List (List aa)} {t:Nat} (h:t < L.length):(L.take (t+1)).flatten=(L.take t).flatten++gi L (t:Int):=by
 rw [fy h,List.flatten_append]; simp
theorem ox (L:List (List aa)) (t:Nat):(L.take t).flatten.length≤L.flatten.length:=by
 have:L.flatten=(L.take t).flatten++(L.drop t).flatten:=by rw [← List.flatten_append,List.take_append_drop]
 rw [this]; simp
theorem v73 (L:List (List aa)) (hp:sA L):VC73 L (fun r=>r=cg L):=by
 unfold VC73 sA at *
 intro hs
 simp only [sm] at hs
 refine ⟨fun n x=>∃ t:Nat,x=t∧t≤L.length∧n=((L.take t).flatten.length:Int),fun _ x=>(L.length - x).toNat,⟨0,rfl,by omega,rfl⟩,?_⟩
 rintro _ _ ⟨t,rfl,ht,rfl⟩
 have hle:=ox L t
 refine ⟨fun hi=>?_,fun hi=>?_⟩
 ·rw [decide_eq_true_eq] at hi
  have h1:=ox L (t+1)
  have h2:=lB (L:=L) (t:=t) (by omega)
  rw [h2,List.length_append] at h1
  rw [wrp (n:=(t:Int)+1) (by omega) (by omega),wrp (n:=((L.take t).flatten.length:Int)+((gi L (t:Int)).length:Int)) (by omega) (by omega)]
  refine ⟨⟨by omega,hi⟩,fun _=>⟨fun h=>by simp at h; omega,fun _=>⟨⟨t+1,by push_cast; rfl,by omega,by rw [h2,List.length_append]; push_cast; rfl⟩,by dsimp only; omega⟩⟩⟩
 ·rw [decide_eq_false_iff_not] at hi
  unfold VC73_J1
  refine ⟨⟨by omega,by omega⟩,?_⟩
  rintro _ rfl _
  refine ⟨fun out x=>∃ u:Nat,x=u∧u≤L.length∧out=(L.take u).flatten,fun _ x=>(L.length - x).toNat,⟨0,rfl,by omega,rfl⟩,?_⟩
  rintro _ _ ⟨u,rfl,hu,rfl⟩
  refine ⟨fun hi=>?_,fun hi=>?_⟩
  ·rw [decide_eq_true_eq] at hi
   have h1:=ox L (u+1)
   have h2:=lB (L:=L) (t:=u) (by omega)
   rw [h2,List.length_append] at h1
   rw [wrp (n:=(u:Int)+1) (by omega) (by omega)]
   exact ⟨⟨by omega,hi⟩,fun _=>⟨by omega,⟨u+1,by push_cast; rfl,by omega,h2.symm⟩,by dsimp only; omega⟩⟩
  ·rw [decide_eq_false_iff_not] at hi
   unfold VC73_J2 cg
   rw [List.take_of_length_le (by omega)]
end Go.Proofs.YteahldlmkheleaaGreat
