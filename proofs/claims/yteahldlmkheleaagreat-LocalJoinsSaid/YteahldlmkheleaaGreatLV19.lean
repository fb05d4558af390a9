/- Pairs and what is joined, as the code finds them. -/
import Derived.Test.YteahldlmkheleaaGreatLV18
set_option linter.all false
namespace Go.Proofs.YteahldlmkheleaaGreat
open Go Go.Sv Go.Pu
theorem jZ (r:List aa):∀ (rs:List (List aa)) (a:Int),eQ (rs++[r]) a=eQ rs a++ll (a+rs.flatten.length) r.length
 | [],a=>by simp [eQ]
 | x :: rs,a=>by
  rw [List.cons_append,eQ,eQ,jZ r rs,List.append_assoc]
  have e:a+(x.length:Int)+(rs.flatten.length:Int)=a+((x :: rs).flatten.length:Int):=by rw [List.flatten_cons,List.length_append]; push_cast; omega
  rw [e]
theorem tJ (a:Int) (n:Nat):(ll a n).length=n - 1:=by unfold ll; simp
theorem k4:∀ (rs:List (List aa)) (a:Int),(eQ rs a).length≤rs.flatten.length
 | [],a=>by simp [eQ]
 | x :: rs,a=>by
  rw [eQ,List.length_append,tJ,List.flatten_cons,List.length_append]
  have:=k4 rs (a+x.length)
  omega
def ml (l:List ab) (all:List aa) (t:Nat):List (Int × Int):=(List.range t).flatMap fun i=>iQ l all i all.length
theorem n8 (l:List ab) (all:List aa) (i n:Nat):iQ l all i (n+1)=iQ l all i n++(if mn l all i n=true then [((i:Int),(n:Int))] else []):=by
 unfold iQ
 rw [List.range_succ,List.filter_append,List.map_append,List.filter_cons,List.filter_nil]
 split <;> rfl
theorem qq (l:List ab) (all:List aa) (i n:Nat):(iQ l all i n).length≤n:=by
 unfold iQ
 rw [List.length_map]
 have:=List.length_filter_le (mn l all i) (List.range n)
 rw [List.length_range] at this; exact this
theorem pG (l:List ab) (all:List aa) (t:Nat):ml l all (t+1)=ml l all t++iQ l all t all.length:=by
 unfold ml
 rw [List.range_succ,List.flatMap_append]; simp
theorem sh (l:List ab) (all:List aa):∀ t:Nat,(ml l all t).length≤all.length * t
 | 0=>by simp [ml]
 | t+1=>by
  rw [pG,List.length_append,Nat.mul_succ]
  have:=sh l all t
  have:=qq l all t all.length
  omega
theorem j43 {l:List ab} {all:List aa} {P0:List (Int × Int)} {Q:List aa × List (Int × Int)→Prop} (hP:P0.length≤1000) (ha:all.length≤1000) (kF:∀ p∈all,0≤p.Oper∧p.Oper < l.length) (hQ:Q (all,P0++lj l all)):VC43_J1 l Q all P0:=by
 unfold VC43_J1
 refine ⟨fun ps x=>∃ t:Nat,x=t∧t≤all.length∧ps=P0++ml l all t,fun _ x=>(all.length - x).toNat,⟨0,rfl,by omega,by simp [ml]⟩,?_⟩
 rintro _ _ ⟨t,rfl,ht,rfl⟩
 refine ⟨fun hi=>?_,fun hi=>?_⟩
 ·rw [decide_eq_true_eq] at hi
  refine ⟨⟨by omega,hi⟩,fun ps x=>∃ u:Nat,x=u∧u≤all.length∧ps=P0++ml l all t++iQ l all t u,fun _ x=>(all.length - x).toNat,⟨0,rfl,by omega,by simp [iQ]⟩,?_⟩
  rintro _ _ ⟨u,rfl,hu,rfl⟩
  have h1:=sh l all t
  have h2:=qq l all t u
  have h3:all.length * t≤1000 * 1000:=Nat.mul_le_mul ha (by omega)
  refine ⟨fun hj=>?_,fun hj=>?_⟩
  ·rw [decide_eq_true_eq] at hj
   refine ⟨⟨by omega,hj⟩,kF _ (eJ (by omega) hi),kF _ (eJ (by omega) hj),?_⟩
   rintro _ rfl
   refine ⟨fun hc=>⟨by simp; omega,?_⟩,fun hc=>?_⟩ <;> unfold VC43_J4 <;> rw [wrp (n:=(u:Int)+1) (by omega) (by omega)] <;> refine ⟨⟨u+1,by push_cast; rfl,by omega,?_⟩,by dsimp only; omega⟩
   ·rw [n8,if_pos (show mn l all t u=true from hc),← List.append_assoc]
   ·rw [n8,if_neg (by rw [show mn l all t u=false from hc]; decide),List.append_nil]
  ·rw [decide_eq_false_iff_not] at hj
   have:u=all.length:=by omega
   subst this
   unfold VC43_J3
   rw [wrp (n:=(t:Int)+1) (by omega) (by omega)]
   exact ⟨⟨t+1,by push_cast; rfl,by omega,by rw [pG,← List.append_assoc]⟩,by dsimp only; omega⟩
 ·rw [decide_eq_false_iff_not] at hi
  have:t=all.length:=by omega
  subst this
  exact hQ
theorem v43 (l:List ab) (rows:List (List aa)) (hp:vx l rows):VC43 l rows (fun r=>r=cg l rows):=by
 obtain ⟨rX,oA⟩:=hp
 unfold VC43
 intro _ hs
 simp only [sm] at hs
 refine ⟨by unfold sH; omega,?_⟩
 rintro _ rfl _
 refine ⟨fun ps a x=>∃ t:Nat,x=t∧t≤rows.length∧a=((rows.take t).flatten.length:Int)∧ps=eQ (rows.take t) 0,fun _ _ x=>(rows.length - x).toNat,⟨0,rfl,by omega,rfl,rfl⟩,?_⟩
 rintro _ _ _ ⟨t,rfl,ht,rfl,rfl⟩
 refine ⟨fun hi=>?_,fun hi=>?_⟩
 ·rw [decide_eq_true_eq] at hi
  have IM:=oF rows (t+1)
  have Kj:=lA (L:=rows) (t:=t) (by omega)
  rw [Kj,List.length_append] at IM
  have Cl:=k4 (rows.take t) 0
  generalize hr:gi rows (t:Int)=r at *
  generalize ha:((rows.take t).flatten.length:Int)=a at *
  refine ⟨⟨by omega,hi⟩,fun _=>⟨fun ps x=>∃ u:Nat,x=(u:Int)+1∧u≤r.length - 1∧ps=eQ (rows.take t) 0++(List.range u).map fun i:Nat=>(a+i,a+i+1),fun _ x=>(r.length - x).toNat,⟨0,rfl,by omega,by simp⟩,?_⟩⟩
  rintro _ _ ⟨u,rfl,hu,rfl⟩
  refine ⟨fun hj=>?_,fun hj=>?_⟩
  ·rw [decide_eq_true_eq] at hj
   rw [wrp (n:=a+((u:Int)+1)) (by omega) (by omega),wrp (n:=a+((u:Int)+1) - 1) (by omega) (by omega),wrp (n:=(u:Int)+1+1) (by omega) (by omega)]
   refine ⟨by simp; omega,⟨u+1,by push_cast; rfl,by omega,?_⟩,by dsimp only; omega⟩
   rw [List.range_succ,List.map_append,← List.append_assoc]
   congr 1
   simp only [List.map_cons,List.map_nil]
   congr 2 <;> omega
  ·rw [decide_eq_false_iff_not] at hj
   have:u=r.length - 1:=by omega
   subst this
   unfold VC43_J5
   rw [hr,wrp (n:=(t:Int)+1) (by omega) (by omega),wrp (n:=a+(r.length:Int)) (by omega) (by omega)]
   refine ⟨⟨t+1,by push_cast; rfl,by omega,by rw [Kj,List.length_append]; push_cast; omega,?_⟩,by dsimp only; omega⟩
   rw [eV (by omega),jZ,hr,ha,Int.zero_add]; rfl
 ·rw [decide_eq_false_iff_not] at hi
  have:t=rows.length:=by omega
  subst this
  rw [List.take_length]
  have Cl:=k4 rows 0
  exact j43 (by omega) rX oA rfl
theorem Ax {n:Int} {pairs:List (Int × Int)} {out:List Int} {x:Nat} (h:kb n pairs out=some x):(x:Int) < n∧db x n out pairs=false:=by
 unfold kb at h
 have h1:=List.mem_range.1 (List.mem_of_find?_eq_some h)
 have h2:=List.find?_some h
 exact ⟨by omega,by simpa using h2⟩
def sQ (n:Int) (pairs:List (Int × Int)) (out:List Int):Prop:=∀ p∈pairs,dT p n=true→∀ i:Nat,i < out.length→gi out (i:Int)=p.2→∃ j:Nat,j < i∧gi out (j:Int)=p.1
theorem ru {l:List Int} {x:Int} {i:Nat} (h:i < l.length):gi (l++[x]) (i:Int)=gi l (i:Int):=by
 rw [cq _ _ (by simp; omega),cq _ _ h,List.getElem_append_left h]
theorem CH (l:List Int) (x:Int):gi (l++[x]) (l.length:Int)=x:=by
 rw [cq _ _ (by simp)]; simp
theorem BU {n:Int} {pairs:List (Int × Int)} {out:List Int} {x:Int} (h:sQ n pairs out) (hx:db x n out pairs=false):sQ n pairs (out++[x]):=by
 intro p hp hq i hi he
 rw [List.length_append,List.length_singleton] at hi
 by_cases hX:i < out.length
 ·rw [ru hX] at he
  obtain ⟨j,hj,hg⟩:=h p hp hq i hX he
  exact ⟨j,hj,by rw [ru (by omega)]; exact hg⟩
 ·have:i=out.length:=by omega
  subst this
  rw [CH] at he
  unfold db at hx
  rw [Bool.or_eq_false_iff] at hx
  have Eg:=List.any_eq_false.1 hx.2 p hp
  unfold cj at Eg
  rw [hq,he] at Eg
  have hm:p.1∈out:=by simpa using Eg
  obtain ⟨j,hj,hg⟩:=List.getElem_of_mem hm
  exact ⟨j,hj,by rw [ru hj,cq _ _ hj]; exact hg⟩
theorem yD {n:Int} {pairs:List (Int × Int)}:∀ (k:Nat) (out:List Int),(iA n pairs k out).2=true→(∀ x∈out,0≤x∧x < n)→out.Nodup→sQ n pairs out→(iA n pairs k out).1.length=out.length+k∧(∀ x∈(iA n pairs k out).1,0≤x∧x < n)∧(iA n pairs k out).1.Nodup∧sQ n pairs (iA n pairs k out).1
 | 0,out,_,h1,h2,h3=>⟨rfl,h1,h2,h3⟩
 | k+1,out,h,h1,h2,h3=>by
  rw [iA] at h ⊢
  cases e:kb n pairs out with
  | none=>rw [e] at h; cases h
  | some x =>
   rw [e] at h
   dsimp only at h ⊢
   obtain ⟨a,b⟩:=Ax e
   have PV:(x:Int)∉out:=by
    unfold db at b
    rw [Bool.or_eq_false_iff,decide_eq_false_iff_not] at b
    exact b.1
   have:=yD k (out++[(x:Int)]) h (fun y hy=>by
    rcases List.mem_append.1 hy with hy | hy
    ·exact h1 y hy
    ·rw [List.mem_singleton] at hy; subst hy; exact ⟨by omega,a⟩) (by
     rw [List.nodup_append]
     exact ⟨h2,by simp,fun y hy z hz=>by rw [List.mem_singleton] at hz; subst hz; rintro rfl; exact PV hy⟩) (BU h3 b)
   rw [List.length_append,List.length_singleton] at this
   exact ⟨by omega,this.2⟩
theorem sk {n:Nat} {pairs:List (Int × Int)} (h:(di n pairs).2=true):(di n pairs).1.length=n∧n≤64∧(∀ x∈(di n pairs).1,0≤x∧x < n)∧(di n pairs).1.Nodup∧sQ n pairs (di n pairs).1:=by
 unfold di at h ⊢
 by_cases e:(n:Int) < 0∨(n:Int) > 64
 ·rw [if_pos e] at h; cases h
 ·rw [if_neg e] at h ⊢
  obtain ⟨a,b,c,d⟩:=yD (n:=(n:Int)) (pairs:=pairs) ((n:Int)).toNat [] h (fun x hx=>by cases hx) List.nodup_nil (fun p _ _ i hi=>by simp at hi)
  exact ⟨by simpa using a,by omega,b,c,d⟩
theorem CP {h:ak} (he:(cm h).2.2=0):(aD h).2=0∧(bw h).length≤20∧cm h=(bw h,ofH h,0):=by
 unfold cm at he ⊢
 by_cases h1:(aD h).2≠0
 ·rw [if_pos h1] at he; exact absurd he h1
 ·rw [if_neg h1] at he ⊢
  by_cases h2:(bw h).length > 20
  ·rw [if_pos h2] at he; cases he
  ·rw [if_neg h2]; exact ⟨by omega,by omega,rfl⟩
theorem ff (h:ak):(bw h).length=(ofH h).length:=by unfold ofH; rw [List.length_map]
theorem qU {h:ak} (hc:(aD h).2=0):1≤h.ae.length∧h.ae.length≤8:=by
 have:=(iG hc).2.1
 unfold p6 at this
 omega
def fI (l:List ab) (of:List Int) (os:List ao) (t:Nat):List (List aa):=(List.range t).map fun j:Nat=>rowOf l of (gi os (j:Int)) (j:Int)
def jc (l:List ab) (of:List Int) (os:List ao) (j:Nat):Prop:=(bn (gi os (j:Int)) (dn l of (j:Int))).2=0
theorem mq (l:List ab) (of:List Int) (os:List ao) (t:Nat):fI l of os (t+1)=fI l of os t++[rowOf l of (gi os (t:Int)) (t:Int)]:=by
 unfold fI; rw [List.range_succ,List.map_append]; rfl
theorem vz {l:List ab} {of:List Int} {os:List ao}:∀ (n t:Nat),t+n=os.length→(∀ j,j < t→jc l of os j) →
  (∃ j,j < os.length∧(∀ i,i < j→jc l of os i)∧¬ jc l of os j∧jq l of (os.drop t) t (fI l of os t)=([],(bn (gi os (j:Int)) (dn l of (j:Int))).2))∨((∀ j,j < os.length→jc l of os j)∧jq l of (os.drop t) t (fI l of os t)=(fI l of os os.length,0))
 | 0,t,h,hok=>by
  right
  have:t=os.length:=by omega
  subst this
  exact ⟨hok,by rw [List.drop_length,jq]⟩
 | n+1,t,h,hok=>by
  rw [qL (l:=l) (of:=of) (os:=os) (t:=t) (by omega)]
  by_cases e:jc l of os t
  ·rw [if_neg (by unfold jc at e; omega),← mq]
   have:=vz (l:=l) (of:=of) (os:=os) n (t+1) (by omega) (fun j hj=>by
    by_cases P6:j=t
    ·rw [P6]; exact e
    ·exact hok j (by omega))
   push_cast at this
   exact this
  ·left
   exact ⟨t,by omega,hok,e,if_pos e⟩
theorem mx (h:ak) (l:List ab) (of:List Int) :
  (∃ j,j < h.ae.length∧(∀ i,i < j→jc l of h.ae i)∧¬ jc l of h.ae j∧cG h l of=([],(bn (gi h.ae (j:Int)) (dn l of (j:Int))).2))∨((∀ j,j < h.ae.length→jc l of h.ae j)∧cG h l of=(fI l of h.ae h.ae.length,0)) :=
 vz h.ae.length 0 (by omega) (fun j hj=>by omega)
theorem BQ {h:ak} {l:List ab} {of:List Int} (he:(cG h l of).2=0):(∀ j,j < h.ae.length→jc l of h.ae j)∧(cG h l of).1=fI l of h.ae h.ae.length:=by
 rcases mx h l of with ⟨j,h1,h2,h3,h4⟩ | ⟨h1,h2⟩
 ·rw [h4] at he; exact absurd he h3
 ·exact ⟨h1,by rw [h2]⟩
theorem ov {l:List ab} {of:List Int} {os:List ao} {p:aa} {n:Nat}:p∈(fI l of os n).flatten↔∃ j:Nat,j < n∧p∈rowOf l of (gi os (j:Int)) (j:Int):=by
 unfold fI
 rw [List.mem_flatten]
 constructor
 ·rintro ⟨r,hr,hp⟩
  obtain ⟨j,hj,rfl⟩:=List.mem_map.1 hr
  exact ⟨j,List.mem_range.1 hj,hp⟩
 ·rintro ⟨j,hj,hp⟩
  exact ⟨_,List.mem_map.2 ⟨j,List.mem_range.2 hj,rfl⟩,hp⟩
theorem o3 {l:List ab} {of:List Int} (hl:l.length=of.length) {os:List ao} {j:Nat} (hok:jc l of os j) {p:aa} (hp:p∈rowOf l of (gi os (j:Int)) (j:Int)):p.Oper∈aW of (j:Int):=by
 unfold rowOf at hp
 obtain ⟨q,hq,rfl⟩:=List.mem_map.1 hp
 have:=(mC hok).2 q.Oper (lr hq)
 have hn:(dn l of (j:Int)).length=(aW of (j:Int)).length:=by rw [my hl,List.length_map]
 exact eJ this.1 (by omega)
theorem nK {of:List Int} {k i:Int} (h:i∈aW of k):0≤i∧i < of.length∧gi of i=k:=by rw [gz] at h; exact mQ.1 h
theorem D1 {l:List ab} {of:List Int} (hl:l.length=of.length) {os:List ao} {j:Nat} (hok:jc l of os j):(rowOf l of (gi os (j:Int)) (j:Int)).length≤l.length:=by
 unfold rowOf
 rw [List.length_map]
 have h1:=ph hok
 have hn:(dn l of (j:Int)).length=(aW of (j:Int)).length:=by rw [my hl,List.length_map]
 have h2:=ot of (j:Int) of.length
 rw [← gz] at h2
 omega
theorem ve {l:List ab} {of:List Int} (hl:l.length=of.length) {os:List ao}:∀ n:Nat,(∀ j,j < n→jc l of os j)→(fI l of os n).flatten.length≤l.length * n
 | 0,_=>by simp [fI]
 | n+1,h=>by
  have h1:=ve hl n (fun j hj=>h j (by omega))
  have h2:=D1 hl (h n (by omega))
  have h3:[rowOf l of (gi os (n:Int)) (n:Int)].flatten=rowOf l of (gi os (n:Int)) (n:Int):=by simp
  rw [mq,List.flatten_append,List.length_append,Nat.mul_succ,h3]
  omega
theorem BK {h:ak} (hc:(aD h).2=0) (h20:(bw h).length≤20) (he:(cG h (bw h) (ofH h)).2=0):vx (bw h) (cG h (bw h) (ofH h)).1:=by
 obtain ⟨h1,h2⟩:=BQ he
 rw [h2]
 have ho:=qU hc
 have h3:=ve (ff h) (os:=h.ae) h.ae.length h1
 have h4:(bw h).length * h.ae.length≤20 * 8:=Nat.mul_le_mul h20 ho.2
 refine ⟨by omega,fun p hp=>?_⟩
 obtain ⟨j,hj,GR⟩:=ov.1 hp
 have:=nK (o3 (ff h) (h1 j hj) GR)
 have:=ff h
 omega
theorem v15 (h:ak) (hp:gr h):VC15 h (fun r=>r=bV h):=by
 unfold VC15
 intro _ _
 refine ⟨hp,?_⟩
 rintro _ rfl _ _
 unfold bV
 refine ⟨fun he=>by rw [if_pos (by simpa using he)],fun he=>?_⟩
 have he:(cm h).2.2=0:=by simpa using he
 obtain ⟨hc,h20,En⟩:=CP he
 rw [if_neg (by omega),En]
 dsimp only
 refine ⟨⟨hp,ff h,by omega,(qU hc).2⟩,?_⟩
 rintro _ rfl _
 refine ⟨fun IQ=>by rw [if_pos (by simpa using IQ)],fun IQ=>?_⟩
 have IQ:(cG h (bw h) (ofH h)).2=0:=by simpa using IQ
 rw [if_neg (by omega)]
 refine ⟨BK hc h20 IQ,?_⟩
 generalize (cG h (bw h) (ofH h)).1=rows
 rintro _ rfl _ _
 have hj:di (((cg (bw h) rows).1.length:Nat):Int) (cg (bw h) rows).2=ki (bw h) rows:=rfl
 rw [hj]
 rintro _ rfl _
 refine ⟨fun hn=>by rw [if_pos (by simpa using hn)],fun hn=>?_⟩
 have hn:(ki (bw h) rows).2=true:=by simpa using hn
 rw [if_neg (by rw [hn]; decide)]
 have hb:(cg (bw h) rows).1=rows.flatten:=rfl
 rw [hb]
 obtain ⟨s1,s2,s3,_,_⟩:=sk (n:=rows.flatten.length) (pairs:=(cg (bw h) rows).2) hn
 have P8:ki (bw h) rows=di ((rows.flatten.length:Nat):Int) (cg (bw h) rows).2:=rfl
 rw [← P8] at s1 s3
 generalize (ki (bw h) rows).1=ord at s1 s3 ⊢
 refine ⟨fun out x=>∃ t:Nat,x=t∧t≤ord.length∧out=(ord.take t).map (gi rows.flatten),fun _ x=>(ord.length - x).toNat,⟨0,rfl,by omega,rfl⟩,?_⟩
 rintro _ _ ⟨t,rfl,ht,rfl⟩
 refine ⟨fun hi=>?_,fun hi=>?_⟩
 ·rw [decide_eq_true_eq] at hi
  rw [wrp (n:=(t:Int)+1) (by omega) (by omega)]
  refine ⟨⟨by omega,hi⟩,s3 _ (eJ (by omega) hi),by simp; omega,⟨t+1,by push_cast; rfl,by omega,?_⟩,by dsimp only; omega⟩
  rw [eV (by omega),List.map_append]; rfl
 ·rw [decide_eq_false_iff_not] at hi
  unfold VC15_J1
  rw [List.take_of_length_le (by omega)]
theorem v9 (h:ak) (hp:gr h):VC9 h (fun r=>r=fe h):=by
 unfold VC9
 intro _ _
 refine ⟨hp,?_⟩
 rintro _ rfl _
 unfold fe
 exact ⟨fun he=>by rw [if_pos (by simpa using he)],fun he=>by rw [if_neg (by simpa using he)]⟩
end Go.Proofs.YteahldlmkheleaaGreat
