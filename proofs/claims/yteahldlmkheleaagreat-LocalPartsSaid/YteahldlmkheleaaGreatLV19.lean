/- Pairs and what is joined, as the code finds them. -/
import Derived.Test.YteahldlmkheleaaGreatLV18
set_option linter.all false
namespace Go.Proofs.YteahldlmkheleaaGreat
open Go Go.Sv Go.Pu
theorem j9 (r:List aa):∀ (rs:List (List aa)) (a:Int),eQ (rs++[r]) a=eQ rs a++lp (a+rs.flatten.length) r.length
 | [],a=>by simp [eQ]
 | x :: rs,a=>by
  rw [List.cons_append,eQ,eQ,j9 r rs,List.append_assoc]
  have e:a+(x.length:Int)+(rs.flatten.length:Int)=a+((x :: rs).flatten.length:Int):=by rw [List.flatten_cons,List.length_append]; push_cast; omega
  rw [e]
theorem tA (a:Int) (n:Nat):(lp a n).length=n - 1:=by unfold lp; simp
theorem k4:∀ (rs:List (List aa)) (a:Int),(eQ rs a).length≤rs.flatten.length
 | [],a=>by simp [eQ]
 | x :: rs,a=>by
  rw [eQ,List.length_append,tA,List.flatten_cons,List.length_append]
  have:=k4 rs (a+x.length)
  omega
def mo (l:List ab) (all:List aa) (t:Nat):List (Int × Int):=(List.range t).flatMap fun i=>iO l all i all.length
theorem nZ (l:List ab) (all:List aa) (i n:Nat):iO l all i (n+1)=iO l all i n++(if mq l all i n=true then [((i:Int),(n:Int))] else []):=by
 unfold iO
 rw [List.range_succ,List.filter_append,List.map_append,List.filter_cons,List.filter_nil]
 split <;> rfl
theorem qt (l:List ab) (all:List aa) (i n:Nat):(iO l all i n).length≤n:=by
 unfold iO
 rw [List.length_map]
 have:=List.length_filter_le (mq l all i) (List.range n)
 rw [List.length_range] at this; exact this
theorem py (l:List ab) (all:List aa) (t:Nat):mo l all (t+1)=mo l all t++iO l all t all.length:=by
 unfold mo
 rw [List.range_succ,List.flatMap_append]; simp
theorem sd (l:List ab) (all:List aa):∀ t:Nat,(mo l all t).length≤all.length * t
 | 0=>by simp [mo]
 | t+1=>by
  rw [py,List.length_append,Nat.mul_succ]
  have:=sd l all t
  have:=qt l all t all.length
  omega
theorem j43 {l:List ab} {all:List aa} {P0:List (Int × Int)} {Q:List aa × List (Int × Int)→Prop} (hP:P0.length≤1000) (ha:all.length≤1000) (hin:∀ p∈all,0≤p.Oper∧p.Oper < l.length) (hQ:Q (all,P0++ll l all)):VC43_J1 l Q all P0:=by
 unfold VC43_J1
 refine ⟨fun ps x=>∃ t:Nat,x=t∧t≤all.length∧ps=P0++mo l all t,fun _ x=>(all.length - x).toNat,⟨0,rfl,by omega,by simp [mo]⟩,?_⟩
 rintro _ _ ⟨t,rfl,ht,rfl⟩
 refine ⟨fun hi=>?_,fun hi=>?_⟩
 ·rw [decide_eq_true_eq] at hi
  refine ⟨⟨by omega,hi⟩,fun ps x=>∃ u:Nat,x=u∧u≤all.length∧ps=P0++mo l all t++iO l all t u,fun _ x=>(all.length - x).toNat,⟨0,rfl,by omega,by simp [iO]⟩,?_⟩
  rintro _ _ ⟨u,rfl,hu,rfl⟩
  have h1:=sd l all t
  have h2:=qt l all t u
  have h3:all.length * t≤1000 * 1000:=Nat.mul_le_mul ha (by omega)
  refine ⟨fun hj=>?_,fun hj=>?_⟩
  ·rw [decide_eq_true_eq] at hj
   refine ⟨⟨by omega,hj⟩,hin _ (dB (by omega) hi),hin _ (dB (by omega) hj),?_⟩
   rintro _ rfl
   refine ⟨fun hc=>⟨by simp; omega,?_⟩,fun hc=>?_⟩ <;> unfold VC43_J4 <;> rw [wrp (n:=(u:Int)+1) (by omega) (by omega)] <;> refine ⟨⟨u+1,by push_cast; rfl,by omega,?_⟩,by dsimp only; omega⟩
   ·rw [nZ,if_pos (show mq l all t u=true from hc),← List.append_assoc]
   ·rw [nZ,if_neg (by rw [show mq l all t u=false from hc]; decide),List.append_nil]
  ·rw [decide_eq_false_iff_not] at hj
   have:u=all.length:=by omega
   subst this
   unfold VC43_J3
   rw [wrp (n:=(t:Int)+1) (by omega) (by omega)]
   exact ⟨⟨t+1,by push_cast; rfl,by omega,by rw [py,← List.append_assoc]⟩,by dsimp only; omega⟩
 ·rw [decide_eq_false_iff_not] at hi
  have:t=all.length:=by omega
  subst this
  exact hQ
theorem v43 (l:List ab) (rows:List (List aa)) (hp:vk l rows):VC43 l rows (fun r=>r=cj l rows):=by
 obtain ⟨pZ,np⟩:=hp
 unfold VC43
 intro _ hs
 simp only [sm] at hs
 refine ⟨by unfold sA; omega,?_⟩
 rintro _ rfl _
 refine ⟨fun ps a x=>∃ t:Nat,x=t∧t≤rows.length∧a=((rows.take t).flatten.length:Int)∧ps=eQ (rows.take t) 0,fun _ _ x=>(rows.length - x).toNat,⟨0,rfl,by omega,rfl,rfl⟩,?_⟩
 rintro _ _ _ ⟨t,rfl,ht,rfl,rfl⟩
 refine ⟨fun hi=>?_,fun hi=>?_⟩
 ·rw [decide_eq_true_eq] at hi
  have I8:=ox rows (t+1)
  have KI:=lB (L:=rows) (t:=t) (by omega)
  rw [KI,List.length_append] at I8
  have Ci:=k4 (rows.take t) 0
  generalize hr:gi rows (t:Int)=r at *
  generalize ha:((rows.take t).flatten.length:Int)=a at *
  refine ⟨⟨by omega,hi⟩,fun _=>⟨fun ps x=>∃ u:Nat,x=(u:Int)+1∧u≤r.length - 1∧ps=eQ (rows.take t) 0++(List.range u).map fun i:Nat=>(a+i,a+i+1),fun _ x=>(r.length - x).toNat,⟨0,rfl,by omega,by simp⟩,?_⟩⟩
  rintro _ _ ⟨u,rfl,hu,rfl⟩
  refine ⟨fun hj=>?_,fun hj=>?_⟩
  ·rw [decide_eq_true_eq] at hj
   rw [wrp (n:=a+((u:Int)+1)) (by omega) (by omega),wrp (n:=a+((u:Int)+1) - 1) (by omega) (by omega),wrp (n:=(u:Int)+1+1) (by omega) (by omega)]
   refine ⟨by simp; omega,⟨u+1,by push_cast; rfl,by omega,?_⟩,by dsimp only; omega⟩
   rw [List.range_succ,List.map_append,← List.append_assoc]
   congr 1
   simp only [List.map_cons,List.map_nil]
   congr 2 <;> omega
  ·rw [decide_eq_false_iff_not] at hj
   have:u=r.length - 1:=by omega
   subst this
   unfold VC43_J5
   rw [hr,wrp (n:=(t:Int)+1) (by omega) (by omega),wrp (n:=a+(r.length:Int)) (by omega) (by omega)]
   refine ⟨⟨t+1,by push_cast; rfl,by omega,by rw [KI,List.length_append]; push_cast; omega,?_⟩,by dsimp only; omega⟩
   rw [fy (by omega),j9,hr,ha,Int.zero_add]; rfl
 ·rw [decide_eq_false_iff_not] at hi
  have:t=rows.length:=by omega
  subst this
  rw [List.take_length]
  have Ci:=k4 rows 0
  exact j43 (by omega) pZ np rfl
theorem Ae {n:Int} {pairs:List (Int × Int)} {out:List Int} {x:Nat} (h:ke n pairs out=some x):(x:Int) < n∧dg x n out pairs=false:=by
 unfold ke at h
 have h1:=List.mem_range.1 (List.mem_of_find?_eq_some h)
 have h2:=List.find?_some h
 exact ⟨by omega,by simpa using h2⟩
def sE (n:Int) (pairs:List (Int × Int)) (out:List Int):Prop:=∀ p∈pairs,ec p n=true→∀ i:Nat,i < out.length→gi out (i:Int)=p.2→∃ j:Nat,j < i∧gi out (j:Int)=p.1
theorem rr {l:List Int} {x:Int} {i:Nat} (h:i < l.length):gi (l++[x]) (i:Int)=gi l (i:Int):=by
 rw [bZ _ _ (by simp; omega),bZ _ _ h,List.getElem_append_left h]
theorem CD (l:List Int) (x:Int):gi (l++[x]) (l.length:Int)=x:=by
 rw [bZ _ _ (by simp)]; simp
theorem BO {n:Int} {pairs:List (Int × Int)} {out:List Int} {x:Int} (h:sE n pairs out) (hx:dg x n out pairs=false):sE n pairs (out++[x]):=by
 intro p hp hq i hi he
 rw [List.length_append,List.length_singleton] at hi
 by_cases ik:i < out.length
 ·rw [rr ik] at he
  obtain ⟨j,hj,hg⟩:=h p hp hq i ik he
  exact ⟨j,hj,by rw [rr (by omega)]; exact hg⟩
 ·have:i=out.length:=by omega
  subst this
  rw [CD] at he
  unfold dg at hx
  rw [Bool.or_eq_false_iff] at hx
  have Ep:=List.any_eq_false.1 hx.2 p hp
  unfold cl at Ep
  rw [hq,he] at Ep
  have hm:p.1∈out:=by simpa using Ep
  obtain ⟨j,hj,hg⟩:=List.getElem_of_mem hm
  exact ⟨j,hj,by rw [rr hj,bZ _ _ hj]; exact hg⟩
theorem yg {n:Int} {pairs:List (Int × Int)}:∀ (k:Nat) (out:List Int),(iu n pairs k out).2=true→(∀ x∈out,0≤x∧x < n)→out.Nodup→sE n pairs out→(iu n pairs k out).1.length=out.length+k∧(∀ x∈(iu n pairs k out).1,0≤x∧x < n)∧(iu n pairs k out).1.Nodup∧sE n pairs (iu n pairs k out).1
 | 0,out,_,h1,h2,h3=>⟨rfl,h1,h2,h3⟩
 | k+1,out,h,h1,h2,h3=>by
  rw [iu] at h ⊢
  cases e:ke n pairs out with
  | none=>rw [e] at h; cases h
  | some x =>
   rw [e] at h
   dsimp only at h ⊢
   obtain ⟨a,b⟩:=Ae e
   have Hd:(x:Int)∉out:=by
    unfold dg at b
    rw [Bool.or_eq_false_iff,decide_eq_false_iff_not] at b
    exact b.1
   have:=yg k (out++[(x:Int)]) h (fun y hy=>by
    rcases List.mem_append.1 hy with hy | hy
    ·exact h1 y hy
    ·rw [List.mem_singleton] at hy; subst hy; exact ⟨by omega,a⟩) (by
     rw [List.nodup_append]
     exact ⟨h2,by simp,fun y hy z hz=>by rw [List.mem_singleton] at hz; subst hz; rintro rfl; exact Hd hy⟩) (BO h3 b)
   rw [List.length_append,List.length_singleton] at this
   exact ⟨by omega,this.2⟩
theorem sg {n:Nat} {pairs:List (Int × Int)} (h:(dp n pairs).2=true):(dp n pairs).1.length=n∧n≤64∧(∀ x∈(dp n pairs).1,0≤x∧x < n)∧(dp n pairs).1.Nodup∧sE n pairs (dp n pairs).1:=by
 unfold dp at h ⊢
 by_cases e:(n:Int) < 0∨(n:Int) > 64
 ·rw [if_pos e] at h; cases h
 ·rw [if_neg e] at h ⊢
  obtain ⟨a,b,c,d⟩:=yg (n:=(n:Int)) (pairs:=pairs) ((n:Int)).toNat [] h (fun x hx=>by cases hx) List.nodup_nil (fun p _ _ i hi=>by simp at hi)
  exact ⟨by simpa using a,by omega,b,c,d⟩
theorem CL {h:al} (he:(cq h).2.2=0):(aE h).2=0∧(bz h).length≤20∧cq h=(bz h,ofH h,0):=by
 unfold cq at he ⊢
 by_cases h1:(aE h).2≠0
 ·rw [if_pos h1] at he; exact absurd he h1
 ·rw [if_neg h1] at he ⊢
  by_cases h2:(bz h).length > 20
  ·rw [if_pos h2] at he; cases he
  ·rw [if_neg h2]; exact ⟨by omega,by omega,rfl⟩
theorem eR (h:al):(bz h).length=(ofH h).length:=by unfold ofH; rw [List.length_map]
theorem qV {h:al} (hc:(aE h).2=0):1≤h.ae.length∧h.ae.length≤8:=by
 have:=(jJ hc).2.1
 unfold p1 at this
 omega
def fC (l:List ab) (of:List Int) (os:List aj) (t:Nat):List (List aa):=(List.range t).map fun j:Nat=>rowOf l of (gi os (j:Int)) (j:Int)
def iw (l:List ab) (of:List Int) (os:List aj) (j:Nat):Prop:=(bn (gi os (j:Int)) (dA l of (j:Int))).2=0
theorem mu (l:List ab) (of:List Int) (os:List aj) (t:Nat):fC l of os (t+1)=fC l of os t++[rowOf l of (gi os (t:Int)) (t:Int)]:=by
 unfold fC; rw [List.range_succ,List.map_append]; rfl
theorem vl {l:List ab} {of:List Int} {os:List aj}:∀ (n t:Nat),t+n=os.length→(∀ j,j < t→iw l of os j) →
  (∃ j,j < os.length∧(∀ i,i < j→iw l of os i)∧¬ iw l of os j∧jo l of (os.drop t) t (fC l of os t)=([],(bn (gi os (j:Int)) (dA l of (j:Int))).2))∨((∀ j,j < os.length→iw l of os j)∧jo l of (os.drop t) t (fC l of os t)=(fC l of os os.length,0))
 | 0,t,h,hok=>by
  right
  have:t=os.length:=by omega
  subst this
  exact ⟨hok,by rw [List.drop_length,jo]⟩
 | n+1,t,h,hok=>by
  rw [qO (l:=l) (of:=of) (os:=os) (t:=t) (by omega)]
  by_cases e:iw l of os t
  ·rw [if_neg (by unfold iw at e; omega),← mu]
   have:=vl (l:=l) (of:=of) (os:=os) n (t+1) (by omega) (fun j hj=>by
    by_cases QC:j=t
    ·rw [QC]; exact e
    ·exact hok j (by omega))
   push_cast at this
   exact this
  ·left
   exact ⟨t,by omega,hok,e,if_pos e⟩
theorem mx (h:al) (l:List ab) (of:List Int) :
  (∃ j,j < h.ae.length∧(∀ i,i < j→iw l of h.ae i)∧¬ iw l of h.ae j∧cM h l of=([],(bn (gi h.ae (j:Int)) (dA l of (j:Int))).2))∨((∀ j,j < h.ae.length→iw l of h.ae j)∧cM h l of=(fC l of h.ae h.ae.length,0)) :=
 vl h.ae.length 0 (by omega) (fun j hj=>by omega)
theorem BJ {h:al} {l:List ab} {of:List Int} (he:(cM h l of).2=0):(∀ j,j < h.ae.length→iw l of h.ae j)∧(cM h l of).1=fC l of h.ae h.ae.length:=by
 rcases mx h l of with ⟨j,h1,h2,h3,h4⟩ | ⟨h1,h2⟩
 ·rw [h4] at he; exact absurd he h3
 ·exact ⟨h1,by rw [h2]⟩
theorem oh {l:List ab} {of:List Int} {os:List aj} {p:aa} {n:Nat}:p∈(fC l of os n).flatten↔∃ j:Nat,j < n∧p∈rowOf l of (gi os (j:Int)) (j:Int):=by
 unfold fC
 rw [List.mem_flatten]
 constructor
 ·rintro ⟨r,hr,hp⟩
  obtain ⟨j,hj,rfl⟩:=List.mem_map.1 hr
  exact ⟨j,List.mem_range.1 hj,hp⟩
 ·rintro ⟨j,hj,hp⟩
  exact ⟨_,List.mem_map.2 ⟨j,List.mem_range.2 hj,rfl⟩,hp⟩
theorem oU {l:List ab} {of:List Int} (hl:l.length=of.length) {os:List aj} {j:Nat} (hok:iw l of os j) {p:aa} (hp:p∈rowOf l of (gi os (j:Int)) (j:Int)):p.Oper∈aS of (j:Int):=by
 unfold rowOf at hp
 obtain ⟨q,hq,rfl⟩:=List.mem_map.1 hp
 have:=(mD hok).2 q.Oper (oo hq)
 have hn:(dA l of (j:Int)).length=(aS of (j:Int)).length:=by rw [my hl,List.length_map]
 exact dB this.1 (by omega)
theorem lL {of:List Int} {k i:Int} (h:i∈aS of k):0≤i∧i < of.length∧gi of i=k:=by rw [gx] at h; exact oZ.1 h
theorem D5 {l:List ab} {of:List Int} (hl:l.length=of.length) {os:List aj} {j:Nat} (hok:iw l of os j):(rowOf l of (gi os (j:Int)) (j:Int)).length≤l.length:=by
 unfold rowOf
 rw [List.length_map]
 have h1:=sY hok
 have hn:(dA l of (j:Int)).length=(aS of (j:Int)).length:=by rw [my hl,List.length_map]
 have h2:=oc of (j:Int) of.length
 rw [← gx] at h2
 omega
theorem uW {l:List ab} {of:List Int} (hl:l.length=of.length) {os:List aj}:∀ n:Nat,(∀ j,j < n→iw l of os j)→(fC l of os n).flatten.length≤l.length * n
 | 0,_=>by simp [fC]
 | n+1,h=>by
  have h1:=uW hl n (fun j hj=>h j (by omega))
  have h2:=D5 hl (h n (by omega))
  have h3:[rowOf l of (gi os (n:Int)) (n:Int)].flatten=rowOf l of (gi os (n:Int)) (n:Int):=by simp
  rw [mu,List.flatten_append,List.length_append,Nat.mul_succ,h3]
  omega
theorem BH {h:al} (hc:(aE h).2=0) (h20:(bz h).length≤20) (he:(cM h (bz h) (ofH h)).2=0):vk (bz h) (cM h (bz h) (ofH h)).1:=by
 obtain ⟨h1,h2⟩:=BJ he
 rw [h2]
 have ho:=qV hc
 have h3:=uW (eR h) (os:=h.ae) h.ae.length h1
 have h4:(bz h).length * h.ae.length≤20 * 8:=Nat.mul_le_mul h20 ho.2
 refine ⟨by omega,fun p hp=>?_⟩
 obtain ⟨j,hj,Ha⟩:=oh.1 hp
 have:=lL (oU (eR h) (h1 j hj) Ha)
 have:=eR h
 omega
theorem v15 (h:al) (hp:gl h):VC15 h (fun r=>r=cV h):=by
 unfold VC15
 intro _ _
 refine ⟨hp,?_⟩
 rintro _ rfl _ _
 unfold cV
 refine ⟨fun he=>by rw [if_pos (by simpa using he)],fun he=>?_⟩
 have he:(cq h).2.2=0:=by simpa using he
 obtain ⟨hc,h20,Ey⟩:=CL he
 rw [if_neg (by omega),Ey]
 dsimp only
 refine ⟨⟨hp,eR h,by omega,(qV hc).2⟩,?_⟩
 rintro _ rfl _
 refine ⟨fun Ja=>by rw [if_pos (by simpa using Ja)],fun Ja=>?_⟩
 have Ja:(cM h (bz h) (ofH h)).2=0:=by simpa using Ja
 rw [if_neg (by omega)]
 refine ⟨BH hc h20 Ja,?_⟩
 generalize (cM h (bz h) (ofH h)).1=rows
 rintro _ rfl _ _
 have hj:dp (((cj (bz h) rows).1.length:Nat):Int) (cj (bz h) rows).2=km (bz h) rows:=rfl
 rw [hj]
 rintro _ rfl _
 refine ⟨fun hn=>by rw [if_pos (by simpa using hn)],fun hn=>?_⟩
 have hn:(km (bz h) rows).2=true:=by simpa using hn
 rw [if_neg (by rw [hn]; decide)]
 have hb:(cj (bz h) rows).1=rows.flatten:=rfl
 rw [hb]
 obtain ⟨s1,s2,s3,_,_⟩:=sg (n:=rows.flatten.length) (pairs:=(cj (bz h) rows).2) hn
 have QE:km (bz h) rows=dp ((rows.flatten.length:Nat):Int) (cj (bz h) rows).2:=rfl
 rw [← QE] at s1 s3
 generalize (km (bz h) rows).1=ord at s1 s3 ⊢
 refine ⟨fun out x=>∃ t:Nat,x=t∧t≤ord.length∧out=(ord.take t).map (gi rows.flatten),fun _ x=>(ord.length - x).toNat,⟨0,rfl,by omega,rfl⟩,?_⟩
 rintro _ _ ⟨t,rfl,ht,rfl⟩
 refine ⟨fun hi=>?_,fun hi=>?_⟩
 ·rw [decide_eq_true_eq] at hi
  rw [wrp (n:=(t:Int)+1) (by omega) (by omega)]
  refine ⟨⟨by omega,hi⟩,s3 _ (dB (by omega) hi),by simp; omega,⟨t+1,by push_cast; rfl,by omega,?_⟩,by dsimp only; omega⟩
  rw [fy (by omega),List.map_append]; rfl
 ·rw [decide_eq_false_iff_not] at hi
  unfold VC15_J1
  rw [List.take_of_length_le (by omega)]
theorem v9 (h:al) (hp:gl h):VC9 h (fun r=>r=dF h):=by
 unfold VC9
 intro _ _
 refine ⟨hp,?_⟩
 rintro _ rfl _
 unfold dF
 exact ⟨fun he=>by rw [if_pos (by simpa using he)],fun he=>by rw [if_neg (by simpa using he)]⟩
end Go.Proofs.YteahldlmkheleaaGreat
