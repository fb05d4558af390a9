/- Lemmas. -/
import Derived.Test.YteahldlmkheleaaGreatLV18
set_option linter.all false
namespace Go.Proofs.YteahldlmkheleaaGreat
open Go Go.Sv Go.Pu
theorem jR (r:List aa):∀ (rs:List (List aa)) (a:Int),eE (rs++[r]) a=eE rs a++lg (a+rs.flatten.length) r.length
 | [],a=>by simp [eE]
 | x :: rs,a=>by
  rw [List.cons_append,eE,eE,jR r rs,List.append_assoc]
  have e:a+(x.length:Int)+(rs.flatten.length:Int)=a+((x :: rs).flatten.length:Int):=by rw [List.flatten_cons,List.length_append]; push_cast; omega
  rw [e]
theorem tb (a:Int) (n:Nat):(lg a n).length=n - 1:=by unfold lg; simp
theorem kS:∀ (rs:List (List aa)) (a:Int),(eE rs a).length≤rs.flatten.length
 | [],a=>by simp [eE]
 | x :: rs,a=>by
  rw [eE,List.length_append,tb,List.flatten_cons,List.length_append]
  have:=kS rs (a+x.length)
  omega
def mh (l:List ab) (all:List aa) (t:Nat):List (Int × Int):=(List.range t).flatMap fun i=>ir l all i all.length
theorem nI (l:List ab) (all:List aa) (i n:Nat):ir l all i (n+1)=ir l all i n++(if m9 l all i n=true then [((i:Int),(n:Int))] else []):=by
 unfold ir
 rw [List.range_succ,List.filter_append,List.map_append,List.filter_cons,List.filter_nil]
 split <;> rfl
theorem p7 (l:List ab) (all:List aa) (i n:Nat):(ir l all i n).length≤n:=by
 unfold ir
 rw [List.length_map]
 have:=List.length_filter_le (m9 l all i) (List.range n)
 rw [List.length_range] at this; exact this
theorem o5 (l:List ab) (all:List aa) (t:Nat):mh l all (t+1)=mh l all t++ir l all t all.length:=by
 unfold mh
 rw [List.range_succ,List.flatMap_append]; simp
theorem rL (l:List ab) (all:List aa):∀ t:Nat,(mh l all t).length≤all.length * t
 | 0=>by simp [mh]
 | t+1=>by
  rw [o5,List.length_append,Nat.mul_succ]
  have:=rL l all t
  have:=p7 l all t all.length
  omega
theorem j43 {l:List ab} {all:List aa} {P0:List (Int × Int)} {Q:List aa × List (Int × Int)→Prop} (hP:P0.length≤1000) (ha:all.length≤1000) (mt:∀ p∈all,0≤p.Oper∧p.Oper < l.length) (hQ:Q (all,P0++lb l all)):VC43_J1 l Q all P0:=by
 unfold VC43_J1
 refine ⟨fun ps x=>∃ t:Nat,x=t∧t≤all.length∧ps=P0++mh l all t,fun _ x=>(all.length - x).toNat,⟨0,rfl,by omega,by simp [mh]⟩,?_⟩
 rintro _ _ ⟨t,rfl,ht,rfl⟩
 refine ⟨fun hi=>?_,fun hi=>?_⟩
 ·rw [decide_eq_true_eq] at hi
  refine ⟨⟨by omega,hi⟩,fun ps x=>∃ u:Nat,x=u∧u≤all.length∧ps=P0++mh l all t++ir l all t u,fun _ x=>(all.length - x).toNat,⟨0,rfl,by omega,by simp [ir]⟩,?_⟩
  rintro _ _ ⟨u,rfl,hu,rfl⟩
  have h1:=rL l all t
  have h2:=p7 l all t u
  have h3:all.length * t≤1000 * 1000:=Nat.mul_le_mul ha (by omega)
  refine ⟨fun hj=>?_,fun hj=>?_⟩
  ·rw [decide_eq_true_eq] at hj
   refine ⟨⟨by omega,hj⟩,mt _ (e7 (by omega) hi),mt _ (e7 (by omega) hj),?_⟩
   rintro _ rfl
   refine ⟨fun hc=>⟨by simp; omega,?_⟩,fun hc=>?_⟩ <;> unfold VC43_J4 <;> rw [wrp (n:=(u:Int)+1) (by omega) (by omega)] <;> refine ⟨⟨u+1,by push_cast; rfl,by omega,?_⟩,by dsimp only; omega⟩
   ·rw [nI,if_pos (show m9 l all t u=true from hc),← List.append_assoc]
   ·rw [nI,if_neg (by rw [show m9 l all t u=false from hc]; decide),List.append_nil]
  ·rw [decide_eq_false_iff_not] at hj
   have:u=all.length:=by omega
   subst this
   unfold VC43_J3
   rw [wrp (n:=(t:Int)+1) (by omega) (by omega)]
   exact ⟨⟨t+1,by push_cast; rfl,by omega,by rw [o5,← List.append_assoc]⟩,by dsimp only; omega⟩
 ·rw [decide_eq_false_iff_not] at hi
  have:t=all.length:=by omega
  subst this
  exact hQ
theorem v43 (l:List ab) (rows:List (List aa)) (hp:uR l rows):VC43 l rows (fun r=>r=cS l rows):=by
 obtain ⟨oD,mq⟩:=hp
 unfold VC43
 intro _ hs
 simp only [sm] at hs
 refine ⟨by unfold r9; omega,?_⟩
 rintro _ rfl _
 refine ⟨fun ps a x=>∃ t:Nat,x=t∧t≤rows.length∧a=((rows.take t).flatten.length:Int)∧ps=eE (rows.take t) 0,fun _ _ x=>(rows.length - x).toNat,⟨0,rfl,by omega,rfl,rfl⟩,?_⟩
 rintro _ _ _ ⟨t,rfl,ht,rfl,rfl⟩
 refine ⟨fun hi=>?_,fun hi=>?_⟩
 ·rw [decide_eq_true_eq] at hi
  have G6:=n8 rows (t+1)
  have Kw:=lx (L:=rows) (t:=t) (by omega)
  rw [Kw,List.length_append] at G6
  have Cb:=kS (rows.take t) 0
  generalize hr:gi rows (t:Int)=r at *
  generalize ha:((rows.take t).flatten.length:Int)=a at *
  refine ⟨⟨by omega,hi⟩,fun _=>⟨fun ps x=>∃ u:Nat,x=(u:Int)+1∧u≤r.length - 1∧ps=eE (rows.take t) 0++(List.range u).map fun i:Nat=>(a+i,a+i+1),fun _ x=>(r.length - x).toNat,⟨0,rfl,by omega,by simp⟩,?_⟩⟩
  rintro _ _ ⟨u,rfl,hu,rfl⟩
  refine ⟨fun hj=>?_,fun hj=>?_⟩
  ·rw [decide_eq_true_eq] at hj
   rw [wrp (n:=a+((u:Int)+1)) (by omega) (by omega),wrp (n:=a+((u:Int)+1) - 1) (by omega) (by omega),wrp (n:=(u:Int)+1+1) (by omega) (by omega)]
   refine ⟨by simp; omega,⟨u+1,by push_cast; rfl,by omega,?_⟩,by dsimp only; omega⟩
   rw [List.range_succ,List.map_append,← List.append_assoc]
   congr 1
   simp only [List.map_cons,List.map_nil]
   congr 2 <;> omega
  ·rw [decide_eq_false_iff_not] at hj
   have:u=r.length - 1:=by omega
   subst this
   unfold VC43_J5
   rw [hr,wrp (n:=(t:Int)+1) (by omega) (by omega),wrp (n:=a+(r.length:Int)) (by omega) (by omega)]
   refine ⟨⟨t+1,by push_cast; rfl,by omega,by rw [Kw,List.length_append]; push_cast; omega,?_⟩,by dsimp only; omega⟩
   rw [eJ (by omega),jR,hr,ha,Int.zero_add]; rfl
 ·rw [decide_eq_false_iff_not] at hi
  have:t=rows.length:=by omega
  subst this
  rw [List.take_length]
  have Cb:=kS rows 0
  exact j43 (by omega) oD mq rfl
theorem zY {n:Int} {pairs:List (Int × Int)} {out:List Int} {x:Nat} (h:jZ n pairs out=some x):(x:Int) < n∧c6 x n out pairs=false:=by
 unfold jZ at h
 have h1:=List.mem_range.1 (List.mem_of_find?_eq_some h)
 have h2:=List.find?_some h
 exact ⟨by omega,by simpa using h2⟩
def uU (n:Int) (pairs:List (Int × Int)) (out:List Int):Prop:=∀ p∈pairs,eI p n=true→∀ i:Nat,i < out.length→gi out (i:Int)=p.2→∃ j:Nat,j < i∧gi out (j:Int)=p.1
theorem qX {l:List Int} {x:Int} {i:Nat} (h:i < l.length):gi (l++[x]) (i:Int)=gi l (i:Int):=by
 rw [cN _ _ (by simp; omega),cN _ _ h,List.getElem_append_left h]
theorem Cy (l:List Int) (x:Int):gi (l++[x]) (l.length:Int)=x:=by
 rw [cN _ _ (by simp)]; simp
theorem BA {n:Int} {pairs:List (Int × Int)} {out:List Int} {x:Int} (h:uU n pairs out) (hx:c6 x n out pairs=false):uU n pairs (out++[x]):=by
 intro p hp hq i hi he
 rw [List.length_append,List.length_singleton] at hi
 by_cases gM:i < out.length
 ·rw [qX gM] at he
  obtain ⟨j,hj,hg⟩:=h p hp hq i gM he
  exact ⟨j,hj,by rw [qX (by omega)]; exact hg⟩
 ·have:i=out.length:=by omega
  subst this
  rw [Cy] at he
  unfold c6 at hx
  rw [Bool.or_eq_false_iff] at hx
  have HI:=List.any_eq_false.1 hx.2 p hp
  unfold cj at HI
  rw [hq,he] at HI
  have hm:p.1∈out:=by simpa using HI
  obtain ⟨j,hj,hg⟩:=List.getElem_of_mem hm
  exact ⟨j,hj,by rw [qX hj,cN _ _ hj]; exact hg⟩
theorem xP {n:Int} {pairs:List (Int × Int)}:∀ (k:Nat) (out:List Int),(hK n pairs k out).2=true→(∀ x∈out,0≤x∧x < n)→out.Nodup→uU n pairs out→(hK n pairs k out).1.length=out.length+k∧(∀ x∈(hK n pairs k out).1,0≤x∧x < n)∧(hK n pairs k out).1.Nodup∧uU n pairs (hK n pairs k out).1
 | 0,out,_,h1,h2,h3=>⟨rfl,h1,h2,h3⟩
 | k+1,out,h,h1,h2,h3=>by
  rw [hK] at h ⊢
  cases e:jZ n pairs out with
  | none=>rw [e] at h; cases h
  | some x =>
   rw [e] at h
   dsimp only at h ⊢
   obtain ⟨a,b⟩:=zY e
   have GZ:(x:Int)∉out:=by
    unfold c6 at b
    rw [Bool.or_eq_false_iff,decide_eq_false_iff_not] at b
    exact b.1
   have:=xP k (out++[(x:Int)]) h (fun y hy=>by
    rcases List.mem_append.1 hy with hy | hy
    ·exact h1 y hy
    ·rw [List.mem_singleton] at hy; subst hy; exact ⟨by omega,a⟩) (by
     rw [List.nodup_append]
     exact ⟨h2,by simp,fun y hy z hz=>by rw [List.mem_singleton] at hz; subst hz; rintro rfl; exact GZ hy⟩) (BA h3 b)
   rw [List.length_append,List.length_singleton] at this
   exact ⟨by omega,this.2⟩
theorem zB {n:Nat} {pairs:List (Int × Int)} (h:(dc n pairs).2=true):(dc n pairs).1.length=n∧n≤64∧(∀ x∈(dc n pairs).1,0≤x∧x < n)∧(dc n pairs).1.Nodup∧uU n pairs (dc n pairs).1:=by
 unfold dc at h ⊢
 by_cases e:(n:Int) < 0∨(n:Int) > 64
 ·rw [if_pos e] at h; cases h
 ·rw [if_neg e] at h ⊢
  obtain ⟨a,b,c,d⟩:=xP (n:=(n:Int)) (pairs:=pairs) ((n:Int)).toNat [] h (fun x hx=>by cases hx) List.nodup_nil (fun p _ _ i hi=>by simp at hi)
  exact ⟨by simpa using a,by omega,b,c,d⟩
theorem CH {h:ak} (he:(cq h).2.2=0):(aB h).2=0∧(bB h).length≤20∧cq h=(bB h,ofH h,0):=by
 unfold cq at he ⊢
 by_cases h1:(aB h).2≠0
 ·rw [if_pos h1] at he; exact absurd he h1
 ·rw [if_neg h1] at he ⊢
  by_cases h2:(bB h).length > 20
  ·rw [if_pos h2] at he; cases he
  ·rw [if_neg h2]; exact ⟨by omega,by omega,rfl⟩
theorem gu (h:ak):(bB h).length=(ofH h).length:=by unfold ofH; rw [List.length_map]
theorem qB {h:ak} (hc:(aB h).2=0):1≤h.ah.length∧h.ah.length≤8:=by
 have:=(iZ hc).2.1
 unfold pA at this
 omega
def fy (l:List ab) (of:List Int) (os:List ae) (t:Nat):List (List aa):=(List.range t).map fun j:Nat=>rowOf l of (gi os (j:Int)) (j:Int)
def ic (l:List ab) (of:List Int) (os:List ae) (j:Nat):Prop:=(bk (gi os (j:Int)) (dm l of (j:Int))).2=0
theorem mj (l:List ab) (of:List Int) (os:List ae) (t:Nat):fy l of os (t+1)=fy l of os t++[rowOf l of (gi os (t:Int)) (t:Int)]:=by
 unfold fy; rw [List.range_succ,List.map_append]; rfl
theorem uS {l:List ab} {of:List Int} {os:List ae}:∀ (n t:Nat),t+n=os.length→(∀ j,j < t→ic l of os j) →
  (∃ j,j < os.length∧(∀ i,i < j→ic l of os i)∧¬ ic l of os j∧jb l of (os.drop t) t (fy l of os t)=([],(bk (gi os (j:Int)) (dm l of (j:Int))).2))∨((∀ j,j < os.length→ic l of os j)∧jb l of (os.drop t) t (fy l of os t)=(fy l of os os.length,0))
 | 0,t,h,hok=>by
  right
  have:t=os.length:=by omega
  subst this
  exact ⟨hok,by rw [List.drop_length,jb]⟩
 | n+1,t,h,hok=>by
  rw [qp (l:=l) (of:=of) (os:=os) (t:=t) (by omega)]
  by_cases e:ic l of os t
  ·rw [if_neg (by unfold ic at e; omega),← mj]
   have:=uS (l:=l) (of:=of) (os:=os) n (t+1) (by omega) (fun j hj=>by
    by_cases P4:j=t
    ·rw [P4]; exact e
    ·exact hok j (by omega))
   push_cast at this
   exact this
  ·left
   exact ⟨t,by omega,hok,e,if_pos e⟩
theorem mn (h:ak) (l:List ab) (of:List Int) :
  (∃ j,j < h.ah.length∧(∀ i,i < j→ic l of h.ah i)∧¬ ic l of h.ah j∧cC h l of=([],(bk (gi h.ah (j:Int)) (dm l of (j:Int))).2))∨((∀ j,j < h.ah.length→ic l of h.ah j)∧cC h l of=(fy l of h.ah h.ah.length,0)) :=
 uS h.ah.length 0 (by omega) (fun j hj=>by omega)
theorem Bu {h:ak} {l:List ab} {of:List Int} (he:(cC h l of).2=0):(∀ j,j < h.ah.length→ic l of h.ah j)∧(cC h l of).1=fy l of h.ah h.ah.length:=by
 rcases mn h l of with ⟨j,h1,h2,h3,h4⟩ | ⟨h1,h2⟩
 ·rw [h4] at he; exact absurd he h3
 ·exact ⟨h1,by rw [h2]⟩
theorem nV {l:List ab} {of:List Int} {os:List ae} {p:aa} {n:Nat}:p∈(fy l of os n).flatten↔∃ j:Nat,j < n∧p∈rowOf l of (gi os (j:Int)) (j:Int):=by
 unfold fy
 rw [List.mem_flatten]
 constructor
 ·rintro ⟨r,hr,hp⟩
  obtain ⟨j,hj,rfl⟩:=List.mem_map.1 hr
  exact ⟨j,List.mem_range.1 hj,hp⟩
 ·rintro ⟨j,hj,hp⟩
  exact ⟨_,List.mem_map.2 ⟨j,List.mem_range.2 hj,rfl⟩,hp⟩
theorem qg {l:List ab} {of:List Int} (hl:l.length=of.length) {os:List ae} {j:Nat} (hok:ic l of os j) {p:aa} (hp:p∈rowOf l of (gi os (j:Int)) (j:Int)):p.Oper∈bo of (j:Int):=by
 unfold rowOf at hp
 obtain ⟨q,hq,rfl⟩:=List.mem_map.1 hp
 have:=(mu hok).2 q.Oper (lq hq)
 have hn:(dm l of (j:Int)).length=(bo of (j:Int)).length:=by rw [nj hl,List.length_map]
 exact e7 this.1 (by omega)
theorem oJ {of:List Int} {k i:Int} (h:i∈bo of k):0≤i∧i < of.length∧gi of i=k:=by rw [hY] at h; exact oM.1 h
theorem DV {l:List ab} {of:List Int} (hl:l.length=of.length) {os:List ae} {j:Nat} (hok:ic l of os j):(rowOf l of (gi os (j:Int)) (j:Int)).length≤l.length:=by
 unfold rowOf
 rw [List.length_map]
 have h1:=sD hok
 have hn:(dm l of (j:Int)).length=(bo of (j:Int)).length:=by rw [nj hl,List.length_map]
 have h2:=nT of (j:Int) of.length
 rw [← hY] at h2
 omega
theorem uG {l:List ab} {of:List Int} (hl:l.length=of.length) {os:List ae}:∀ n:Nat,(∀ j,j < n→ic l of os j)→(fy l of os n).flatten.length≤l.length * n
 | 0,_=>by simp [fy]
 | n+1,h=>by
  have h1:=uG hl n (fun j hj=>h j (by omega))
  have h2:=DV hl (h n (by omega))
  have h3:[rowOf l of (gi os (n:Int)) (n:Int)].flatten=rowOf l of (gi os (n:Int)) (n:Int):=by simp
  rw [mj,List.flatten_append,List.length_append,Nat.mul_succ,h3]
  omega
theorem Bq {h:ak} (hc:(aB h).2=0) (h20:(bB h).length≤20) (he:(cC h (bB h) (ofH h)).2=0):uR (bB h) (cC h (bB h) (ofH h)).1:=by
 obtain ⟨h1,h2⟩:=Bu he
 rw [h2]
 have ho:=qB hc
 have h3:=uG (gu h) (os:=h.ah) h.ah.length h1
 have h4:(bB h).length * h.ah.length≤20 * 8:=Nat.mul_le_mul h20 ho.2
 refine ⟨by omega,fun p hp=>?_⟩
 obtain ⟨j,hj,GX⟩:=nV.1 hp
 have:=oJ (qg (gu h) (h1 j hj) GX)
 have:=gu h
 omega
theorem v15 (h:ak) (hp:gg h):VC15 h (fun r=>r=cI h):=by
 unfold VC15
 intro _ _
 refine ⟨hp,?_⟩
 rintro _ rfl _ _
 unfold cI
 refine ⟨fun he=>by rw [if_pos (by simpa using he)],fun he=>?_⟩
 have he:(cq h).2.2=0:=by simpa using he
 obtain ⟨hc,h20,Ep⟩:=CH he
 rw [if_neg (by omega),Ep]
 dsimp only
 refine ⟨⟨hp,gu h,by omega,(qB hc).2⟩,?_⟩
 rintro _ rfl _
 refine ⟨fun IT=>by rw [if_pos (by simpa using IT)],fun IT=>?_⟩
 have IT:(cC h (bB h) (ofH h)).2=0:=by simpa using IT
 rw [if_neg (by omega)]
 refine ⟨Bq hc h20 IT,?_⟩
 generalize (cC h (bB h) (ofH h)).1=rows
 rintro _ rfl _ _
 have hj:dc (((cS (bB h) rows).1.length:Nat):Int) (cS (bB h) rows).2=ka (bB h) rows:=rfl
 rw [hj]
 rintro _ rfl _
 refine ⟨fun hn=>by rw [if_pos (by simpa using hn)],fun hn=>?_⟩
 have hn:(ka (bB h) rows).2=true:=by simpa using hn
 rw [if_neg (by rw [hn]; decide)]
 have hb:(cS (bB h) rows).1=rows.flatten:=rfl
 rw [hb]
 obtain ⟨s1,s2,s3,_,_⟩:=zB (n:=rows.flatten.length) (pairs:=(cS (bB h) rows).2) hn
 have P6:ka (bB h) rows=dc ((rows.flatten.length:Nat):Int) (cS (bB h) rows).2:=rfl
 rw [← P6] at s1 s3
 generalize (ka (bB h) rows).1=ord at s1 s3 ⊢
 refine ⟨fun out x=>∃ t:Nat,x=t∧t≤ord.length∧out=(ord.take t).map (gi rows.flatten),fun _ x=>(ord.length - x).toNat,⟨0,rfl,by omega,rfl⟩,?_⟩
 rintro _ _ ⟨t,rfl,ht,rfl⟩
 refine ⟨fun hi=>?_,fun hi=>?_⟩
 ·rw [decide_eq_true_eq] at hi
  rw [wrp (n:=(t:Int)+1) (by omega) (by omega)]
  refine ⟨⟨by omega,hi⟩,s3 _ (e7 (by omega) hi),by simp; omega,⟨t+1,by push_cast; rfl,by omega,?_⟩,by dsimp only; omega⟩
  rw [eJ (by omega),List.map_append]; rfl
 ·rw [decide_eq_false_iff_not] at hi
  unfold VC15_J1
  rw [List.take_of_length_le (by omega)]
theorem v9 (h:ak) (hp:gg h):VC9 h (fun r=>r=dx h):=by
 unfold VC9
 intro _ _
 refine ⟨hp,?_⟩
 rintro _ rfl _
 unfold dx
 exact ⟨fun he=>by rw [if_pos (by simpa using he)],fun he=>by rw [if_neg (by simpa using he)]⟩
end Go.Proofs.YteahldlmkheleaaGreat
