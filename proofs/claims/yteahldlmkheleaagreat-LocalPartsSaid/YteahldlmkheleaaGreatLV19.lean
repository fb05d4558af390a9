/- Nu and what is sS,as the code xX them. -/
import Derived.Test.YteahldlmkheleaaGreatLV18
set_option linter.all false
namespace Go.Proofs.YteahldlmkheleaaGreat
open Go Go.Sv Go.Pu
theorem jx (r:List aa):∀ (rs:List (List aa)) (a:Int),ew (rs++[r]) a=ew rs a++kD (a+rs.flatten.length) r.length
 | [],a=>by simp [ew]
 | x :: rs,a=>by
  rw [List.cons_append,ew,ew,jx r rs,List.append_assoc]
  have e:a+(x.length:Int)+(rs.flatten.length:Int)=a+((x :: rs).flatten.length:Int):=by rw [List.flatten_cons,List.length_append]; push_cast; omega
  rw [e]
theorem sk (a:Int) (n:Nat):(kD a n).length=n - 1:=by unfold kD; simp
theorem kj:∀ (rs:List (List aa)) (a:Int),(ew rs a).length≤rs.flatten.length
 | [],a=>by simp [ew]
 | x :: rs,a=>by
  rw [ew,List.length_append,sk,List.flatten_cons,List.length_append]
  have:=kj rs (a+x.length)
  omega
def lF (l:List ab) (all:List aa) (t:Nat):List (Int × Int):=(List.range t).flatMap fun i=>ig l all i all.length
theorem na (l:List ab) (all:List aa) (i n:Nat):ig l all i (n+1)=ig l all i n++(if lG l all i n=true then [((i:Int),(n:Int))] else []):=by
 unfold ig
 rw [List.range_succ,List.filter_append,List.map_append,List.filter_cons,List.filter_nil]
 split <;> rfl
theorem pC (l:List ab) (all:List aa) (i n:Nat):(ig l all i n).length≤n:=by
 unfold ig
 rw [List.length_map]
 have:=List.length_filter_le (lG l all i) (List.range n)
 rw [List.length_range] at this; exact this
theorem oA (l:List ab) (all:List aa) (t:Nat):lF l all (t+1)=lF l all t++ig l all t all.length:=by
 unfold lF
 rw [List.range_succ,List.flatMap_append]; simp
theorem q9 (l:List ab) (all:List aa):∀ t:Nat,(lF l all t).length≤all.length * t
 | 0=>by simp [lF]
 | t+1=>by
  rw [oA,List.length_append,Nat.mul_succ]
  have:=q9 l all t
  have:=pC l all t all.length
  omega
theorem j43 {l:List ab} {all:List aa} {P0:List (Int × Int)} {Q:List aa × List (Int × Int)→Prop} (hP:P0.length≤1000) (ha:all.length≤1000) (hin:∀ p∈all,0≤p.Oper∧p.Oper < l.length) (hQ:Q (all,P0++kB l all)):VC43_J1 l Q all P0:=by
 unfold VC43_J1
 refine ⟨fun ps x=>∃ t:Nat,x=t∧t≤all.length∧ps=P0++lF l all t,fun _ x=>(all.length - x).toNat,⟨0,rfl,by omega,by simp [lF]⟩,?_⟩
 rintro _ _ ⟨t,rfl,ht,rfl⟩
 refine ⟨fun hi=>?_,fun hi=>?_⟩
 ·rw [decide_eq_true_eq] at hi
  refine ⟨⟨by omega,hi⟩,fun ps x=>∃ u:Nat,x=u∧u≤all.length∧ps=P0++lF l all t++ig l all t u,fun _ x=>(all.length - x).toNat,⟨0,rfl,by omega,by simp [ig]⟩,?_⟩
  rintro _ _ ⟨u,rfl,hu,rfl⟩
  have h1:=q9 l all t
  have h2:=pC l all t u
  have h3:all.length * t≤1000 * 1000:=Nat.mul_le_mul ha (by omega)
  refine ⟨fun hj=>?_,fun hj=>?_⟩
  ·rw [decide_eq_true_eq] at hj
   refine ⟨⟨by omega,hj⟩,hin _ (dq (by omega) hi),hin _ (dq (by omega) hj),?_⟩
   rintro _ rfl
   refine ⟨fun hc=>⟨by simp; omega,?_⟩,fun hc=>?_⟩ <;> unfold VC43_J4 <;> rw [wrp (n:=(u:Int)+1) (by omega) (by omega)] <;> refine ⟨⟨u+1,by push_cast; rfl,by omega,?_⟩,by dsimp only; omega⟩
   ·rw [na,if_pos (show lG l all t u=true from hc),← List.append_assoc]
   ·rw [na,if_neg (by rw [show lG l all t u=false from hc]; decide),List.append_nil]
  ·rw [decide_eq_false_iff_not] at hj
   have:u=all.length:=by omega
   subst this
   unfold VC43_J3
   rw [wrp (n:=(t:Int)+1) (by omega) (by omega)]
   exact ⟨⟨t+1,by push_cast; rfl,by omega,by rw [oA,← List.append_assoc]⟩,by dsimp only; omega⟩
 ·rw [decide_eq_false_iff_not] at hi
  have:t=all.length:=by omega
  subst this
  exact hQ
theorem v43 (l:List ab) (rows:List (List aa)) (hp:ue l rows):VC43 l rows (fun r=>r=b9 l rows):=by
 obtain ⟨o4,mt⟩:=hp
 unfold VC43
 intro _ hs
 simp only [sm] at hs
 refine ⟨by unfold ru; omega,?_⟩
 rintro _ rfl _
 refine ⟨fun ps a x=>∃ t:Nat,x=t∧t≤rows.length∧a=((rows.take t).flatten.length:Int)∧ps=ew (rows.take t) 0,fun _ _ x=>(rows.length - x).toNat,⟨0,rfl,by omega,rfl,rfl⟩,?_⟩
 rintro _ _ _ ⟨t,rfl,ht,rfl,rfl⟩
 refine ⟨fun hi=>?_,fun hi=>?_⟩
 ·rw [decide_eq_true_eq] at hi
  have HE:=nB rows (t+1)
  have Jo:=kN (L:=rows) (t:=t) (by omega)
  rw [Jo,List.length_append] at HE
  have A3:=kj (rows.take t) 0
  generalize hr:gi rows (t:Int)=r at *
  generalize ha:((rows.take t).flatten.length:Int)=a at *
  refine ⟨⟨by omega,hi⟩,fun _=>⟨fun ps x=>∃ u:Nat,x=(u:Int)+1∧u≤r.length - 1∧ps=ew (rows.take t) 0++(List.range u).map fun i:Nat=>(a+i,a+i+1),fun _ x=>(r.length - x).toNat,⟨0,rfl,by omega,by simp⟩,?_⟩⟩
  rintro _ _ ⟨u,rfl,hu,rfl⟩
  refine ⟨fun hj=>?_,fun hj=>?_⟩
  ·rw [decide_eq_true_eq] at hj
   rw [wrp (n:=a+((u:Int)+1)) (by omega) (by omega),wrp (n:=a+((u:Int)+1) - 1) (by omega) (by omega),wrp (n:=(u:Int)+1+1) (by omega) (by omega)]
   refine ⟨by simp; omega,⟨u+1,by push_cast; rfl,by omega,?_⟩,by dsimp only; omega⟩
   rw [List.range_succ,List.map_append,← List.append_assoc]
   congr 1
   simp only [List.map_cons,List.map_nil]
   congr 2 <;> omega
  ·rw [decide_eq_false_iff_not] at hj
   have:u=r.length - 1:=by omega
   subst this
   unfold VC43_J5
   rw [hr,wrp (n:=(t:Int)+1) (by omega) (by omega),wrp (n:=a+(r.length:Int)) (by omega) (by omega)]
   refine ⟨⟨t+1,by push_cast; rfl,by omega,by rw [Jo,List.length_append]; push_cast; omega,?_⟩,by dsimp only; omega⟩
   rw [e9 (by omega),jx,hr,ha,Int.zero_add]; rfl
 ·rw [decide_eq_false_iff_not] at hi
  have:t=rows.length:=by omega
  subst this
  rw [List.take_length]
  have A3:=kj rows 0
  exact j43 (by omega) o4 mt rfl
theorem yO {n:Int} {pairs:List (Int × Int)} {out:List Int} {x:Nat} (h:jB n pairs out=some x):(x:Int) < n∧c6 x n out pairs=false:=by
 unfold jB at h
 have h1:=List.mem_range.1 (List.mem_of_find?_eq_some h)
 have h2:=List.find?_some h
 exact ⟨by omega,by simpa using h2⟩
def rB (n:Int) (pairs:List (Int × Int)) (out:List Int):Prop:=∀ p∈pairs,dR p n=true→∀ i:Nat,i < out.length→gi out (i:Int)=p.2→∃ j:Nat,j < i∧gi out (j:Int)=p.1
theorem qv {l:List Int} {x:Int} {i:Nat} (h:i < l.length):gi (l++[x]) (i:Int)=gi l (i:Int):=by
 rw [bS _ _ (by simp; omega),bS _ _ h,List.getElem_append_left h]
theorem Bo (l:List Int) (x:Int):gi (l++[x]) (l.length:Int)=x:=by
 rw [bS _ _ (by simp)]; simp
theorem Az {n:Int} {pairs:List (Int × Int)} {out:List Int} {x:Int} (h:rB n pairs out) (hx:c6 x n out pairs=false):rB n pairs (out++[x]):=by
 intro p hp hq i hi he
 rw [List.length_append,List.length_singleton] at hi
 by_cases gS:i < out.length
 ·rw [qv gS] at he
  obtain ⟨j,hj,hg⟩:=h p hp hq i gS he
  exact ⟨j,hj,by rw [qv (by omega)]; exact hg⟩
 ·have:i=out.length:=by omega
  subst this
  rw [Bo] at he
  unfold c6 at hx
  rw [Bool.or_eq_false_iff] at hx
  have Db:=List.any_eq_false.1 hx.2 p hp
  unfold ca at Db
  rw [hq,he] at Db
  have hm:p.1∈out:=by simpa using Db
  obtain ⟨j,hj,hg⟩:=List.getElem_of_mem hm
  exact ⟨j,hj,by rw [qv hj,bS _ _ hj]; exact hg⟩
theorem wS {n:Int} {pairs:List (Int × Int)}:∀ (k:Nat) (out:List Int),(gX n pairs k out).2=true→(∀ x∈out,0≤x∧x < n)→out.Nodup→rB n pairs out→(gX n pairs k out).1.length=out.length+k∧(∀ x∈(gX n pairs k out).1,0≤x∧x < n)∧(gX n pairs k out).1.Nodup∧rB n pairs (gX n pairs k out).1
 | 0,out,_,h1,h2,h3=>⟨rfl,h1,h2,h3⟩
 | k+1,out,h,h1,h2,h3=>by
  rw [gX] at h ⊢
  cases e:jB n pairs out with
  | none=>rw [e] at h; cases h
  | some x =>
   rw [e] at h
   dsimp only at h ⊢
   obtain ⟨a,b⟩:=yO e
   have FV:(x:Int)∉out:=by
    unfold c6 at b
    rw [Bool.or_eq_false_iff,decide_eq_false_iff_not] at b
    exact b.1
   have:=wS k (out++[(x:Int)]) h (fun y hy=>by
    rcases List.mem_append.1 hy with hy | hy
    ·exact h1 y hy
    ·rw [List.mem_singleton] at hy; subst hy; exact ⟨by omega,a⟩) (by
     rw [List.nodup_append]
     exact ⟨h2,by simp,fun y hy z hz=>by rw [List.mem_singleton] at hz; subst hz; rintro rfl; exact FV hy⟩) (Az h3 b)
   rw [List.length_append,List.length_singleton] at this
   exact ⟨by omega,this.2⟩
theorem re {n:Nat} {pairs:List (Int × Int)} (h:(de n pairs).2=true):(de n pairs).1.length=n∧n≤64∧(∀ x∈(de n pairs).1,0≤x∧x < n)∧(de n pairs).1.Nodup∧rB n pairs (de n pairs).1:=by
 unfold de at h ⊢
 by_cases e:(n:Int) < 0∨(n:Int) > 64
 ·rw [if_pos e] at h; cases h
 ·rw [if_neg e] at h ⊢
  obtain ⟨a,b,c,d⟩:=wS (n:=(n:Int)) (pairs:=pairs) ((n:Int)).toNat [] h (fun x hx=>by cases hx) List.nodup_nil (fun p _ _ i hi=>by simp at hi)
  exact ⟨by simpa using a,by omega,b,c,d⟩
theorem Bw {h:ak} (he:(cd h).2.2=0):(aB h).2=0∧(bp h).length≤20∧cd h=(bp h,ofH h,0):=by
 unfold cd at he ⊢
 by_cases h1:(aB h).2≠0
 ·rw [if_pos h1] at he; exact absurd he h1
 ·rw [if_neg h1] at he ⊢
  by_cases h2:(bp h).length > 20
  ·rw [if_pos h2] at he; cases he
  ·rw [if_neg h2]; exact ⟨by omega,by omega,rfl⟩
theorem eA (h:ak):(bp h).length=(ofH h).length:=by unfold ofH; rw [List.length_map]
theorem p7 {h:ak} (hc:(aB h).2=0):1≤h.ae.length∧h.ae.length≤8:=by
 have:=(je hc).2.1
 unfold o5 at this
 omega
def fc (l:List ab) (of:List Int) (os:List ah) (t:Nat):List (List aa):=(List.range t).map fun j:Nat=>rowOf l of (gi os (j:Int)) (j:Int)
def gZ (l:List ab) (of:List Int) (os:List ah) (j:Nat):Prop:=(bj (gi os (j:Int)) (dp l of (j:Int))).2=0
theorem lI (l:List ab) (of:List Int) (os:List ah) (t:Nat):fc l of os (t+1)=fc l of os t++[rowOf l of (gi os (t:Int)) (t:Int)]:=by
 unfold fc; rw [List.range_succ,List.map_append]; rfl
theorem uf {l:List ab} {of:List Int} {os:List ah}:∀ (n t:Nat),t+n=os.length→(∀ j,j < t→gZ l of os j) →
  (∃ j,j < os.length∧(∀ i,i < j→gZ l of os i)∧¬ gZ l of os j∧iM l of (os.drop t) t (fc l of os t)=([],(bj (gi os (j:Int)) (dp l of (j:Int))).2))∨((∀ j,j < os.length→gZ l of os j)∧iM l of (os.drop t) t (fc l of os t)=(fc l of os os.length,0))
 | 0,t,h,hok=>by
  right
  have:t=os.length:=by omega
  subst this
  exact ⟨hok,by rw [List.drop_length,iM]⟩
 | n+1,t,h,hok=>by
  rw [pY (l:=l) (of:=of) (os:=os) (t:=t) (by omega)]
  by_cases e:gZ l of os t
  ·rw [if_neg (by unfold gZ at e; omega),← lI]
   have:=uf (l:=l) (of:=of) (os:=os) n (t+1) (by omega) (fun j hj=>by
    by_cases O8:j=t
    ·rw [O8]; exact e
    ·exact hok j (by omega))
   push_cast at this
   exact this
  ·left
   exact ⟨t,by omega,hok,e,if_pos e⟩
theorem lK (h:ak) (l:List ab) (of:List Int) :
  (∃ j,j < h.ae.length∧(∀ i,i < j→gZ l of h.ae i)∧¬ gZ l of h.ae j∧cz h l of=([],(bj (gi h.ae (j:Int)) (dp l of (j:Int))).2))∨((∀ j,j < h.ae.length→gZ l of h.ae j)∧cz h l of=(fc l of h.ae h.ae.length,0)) :=
 uf h.ae.length 0 (by omega) (fun j hj=>by omega)
theorem Aw {h:ak} {l:List ab} {of:List Int} (he:(cz h l of).2=0):(∀ j,j < h.ae.length→gZ l of h.ae j)∧(cz h l of).1=fc l of h.ae h.ae.length:=by
 rcases lK h l of with ⟨j,h1,h2,h3,h4⟩ | ⟨h1,h2⟩
 ·rw [h4] at he; exact absurd he h3
 ·exact ⟨h1,by rw [h2]⟩
theorem nt {l:List ab} {of:List Int} {os:List ah} {p:aa} {n:Nat}:p∈(fc l of os n).flatten↔∃ j:Nat,j < n∧p∈rowOf l of (gi os (j:Int)) (j:Int):=by
 unfold fc
 rw [List.mem_flatten]
 constructor
 ·rintro ⟨r,hr,hp⟩
  obtain ⟨j,hj,rfl⟩:=List.mem_map.1 hr
  exact ⟨j,List.mem_range.1 hj,hp⟩
 ·rintro ⟨j,hj,hp⟩
  exact ⟨_,List.mem_map.2 ⟨j,List.mem_range.2 hj,rfl⟩,hp⟩
theorem nX {l:List ab} {of:List Int} (hl:l.length=of.length) {os:List ah} {j:Nat} (hok:gZ l of os j) {p:aa} (hp:p∈rowOf l of (gi os (j:Int)) (j:Int)):p.Oper∈aP of (j:Int):=by
 unfold rowOf at hp
 obtain ⟨q,hq,rfl⟩:=List.mem_map.1 hp
 have:=(lR hok).2 q.Oper (nv hq)
 have hn:(dp l of (j:Int)).length=(aP of (j:Int)).length:=by rw [lL hl,List.length_map]
 exact dq this.1 (by omega)
theorem kX {of:List Int} {k i:Int} (h:i∈aP of k):0≤i∧i < of.length∧gi of i=k:=by rw [fZ] at h; exact n6.1 h
theorem CN {l:List ab} {of:List Int} (hl:l.length=of.length) {os:List ah} {j:Nat} (hok:gZ l of os j):(rowOf l of (gi os (j:Int)) (j:Int)).length≤l.length:=by
 unfold rowOf
 rw [List.length_map]
 have h1:=rO hok
 have hn:(dp l of (j:Int)).length=(aP of (j:Int)).length:=by rw [lL hl,List.length_map]
 have h2:=nq of (j:Int) of.length
 rw [← fZ] at h2
 omega
theorem tP {l:List ab} {of:List Int} (hl:l.length=of.length) {os:List ah}:∀ n:Nat,(∀ j,j < n→gZ l of os j)→(fc l of os n).flatten.length≤l.length * n
 | 0,_=>by simp [fc]
 | n+1,h=>by
  have h1:=tP hl n (fun j hj=>h j (by omega))
  have h2:=CN hl (h n (by omega))
  have h3:[rowOf l of (gi os (n:Int)) (n:Int)].flatten=rowOf l of (gi os (n:Int)) (n:Int):=by simp
  rw [lI,List.flatten_append,List.length_append,Nat.mul_succ,h3]
  omega
theorem Au {h:ak} (hc:(aB h).2=0) (h20:(bp h).length≤20) (he:(cz h (bp h) (ofH h)).2=0):ue (bp h) (cz h (bp h) (ofH h)).1:=by
 obtain ⟨h1,h2⟩:=Aw he
 rw [h2]
 have ho:=p7 hc
 have h3:=tP (eA h) (os:=h.ae) h.ae.length h1
 have h4:(bp h).length * h.ae.length≤20 * 8:=Nat.mul_le_mul h20 ho.2
 refine ⟨by omega,fun p hp=>?_⟩
 obtain ⟨j,hj,FS⟩:=nt.1 hp
 have:=kX (nX (eA h) (h1 j hj) FS)
 have:=eA h
 omega
theorem v15 (h:ak) (hp:fQ h):VC15 h (fun r=>r=cG h):=by
 unfold VC15
 intro _ _
 refine ⟨hp,?_⟩
 rintro _ rfl _ _
 unfold cG
 refine ⟨fun he=>by rw [if_pos (by simpa using he)],fun he=>?_⟩
 have he:(cd h).2.2=0:=by simpa using he
 obtain ⟨hc,h20,Di⟩:=Bw he
 rw [if_neg (by omega),Di]
 dsimp only
 refine ⟨⟨hp,eA h,by omega,(p7 hc).2⟩,?_⟩
 rintro _ rfl _
 refine ⟨fun HG=>by rw [if_pos (by simpa using HG)],fun HG=>?_⟩
 have HG:(cz h (bp h) (ofH h)).2=0:=by simpa using HG
 rw [if_neg (by omega)]
 refine ⟨Au hc h20 HG,?_⟩
 generalize (cz h (bp h) (ofH h)).1=rows
 rintro _ rfl _ _
 have hj:de (((b9 (bp h) rows).1.length:Nat):Int) (b9 (bp h) rows).2=jG (bp h) rows:=rfl
 rw [hj]
 rintro _ rfl _
 refine ⟨fun hn=>by rw [if_pos (by simpa using hn)],fun hn=>?_⟩
 have hn:(jG (bp h) rows).2=true:=by simpa using hn
 rw [if_neg (by rw [hn]; decide)]
 have hb:(b9 (bp h) rows).1=rows.flatten:=rfl
 rw [hb]
 obtain ⟨s1,s2,s3,_,_⟩:=re (n:=rows.flatten.length) (pairs:=(b9 (bp h) rows).2) hn
 have Pa:jG (bp h) rows=de ((rows.flatten.length:Nat):Int) (b9 (bp h) rows).2:=rfl
 rw [← Pa] at s1 s3
 generalize (jG (bp h) rows).1=ord at s1 s3 ⊢
 refine ⟨fun out x=>∃ t:Nat,x=t∧t≤ord.length∧out=(ord.take t).map (gi rows.flatten),fun _ x=>(ord.length - x).toNat,⟨0,rfl,by omega,rfl⟩,?_⟩
 rintro _ _ ⟨t,rfl,ht,rfl⟩
 refine ⟨fun hi=>?_,fun hi=>?_⟩
 ·rw [decide_eq_true_eq] at hi
  rw [wrp (n:=(t:Int)+1) (by omega) (by omega)]
  refine ⟨⟨by omega,hi⟩,s3 _ (dq (by omega) hi),by simp; omega,⟨t+1,by push_cast; rfl,by omega,?_⟩,by dsimp only; omega⟩
  rw [e9 (by omega),List.map_append]; rfl
 ·rw [decide_eq_false_iff_not] at hi
  unfold VC15_J1
  rw [List.take_of_length_le (by omega)]
theorem v9 (h:ak) (hp:fQ h):VC9 h (fun r=>r=dv h):=by
 unfold VC9
 intro _ _
 refine ⟨hp,?_⟩
 rintro _ rfl _
 unfold dv
 exact ⟨fun he=>by rw [if_pos (by simpa using he)],fun he=>by rw [if_neg (by simpa using he)]⟩
end Go.Proofs.YteahldlmkheleaaGreat
