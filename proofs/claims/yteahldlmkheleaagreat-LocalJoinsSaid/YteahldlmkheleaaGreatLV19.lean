/- MM and what is td,as the code yg them. -/
import Derived.Test.YteahldlmkheleaaGreatLV18
set_option linter.all false
namespace Go.Proofs.YteahldlmkheleaaGreat
open Go Go.Sv Go.Pu
theorem ju (r:List aa):∀ (rs:List (List aa)) (a:Int),ew (rs++[r]) a=ew rs a++kC (a+rs.flatten.length) r.length
 | [],a=>by simp [ew]
 | x :: rs,a=>by
  rw [List.cons_append,ew,ew,ju r rs,List.append_assoc]
  have e:a+(x.length:Int)+(rs.flatten.length:Int)=a+((x :: rs).flatten.length:Int):=by rw [List.flatten_cons,List.length_append]; push_cast; omega
  rw [e]
theorem sB (a:Int) (n:Nat):(kC a n).length=n - 1:=by unfold kC; simp
theorem km:∀ (rs:List (List aa)) (a:Int),(ew rs a).length≤rs.flatten.length
 | [],a=>by simp [ew]
 | x :: rs,a=>by
  rw [ew,List.length_append,sB,List.flatten_cons,List.length_append]
  have:=km rs (a+x.length)
  omega
def lE (l:List ab) (all:List aa) (t:Nat):List (Int × Int):=(List.range t).flatMap fun i=>il l all i all.length
theorem np (l:List ab) (all:List aa) (i n:Nat):il l all i (n+1)=il l all i n++(if lF l all i n=true then [((i:Int),(n:Int))] else []):=by
 unfold il
 rw [List.range_succ,List.filter_append,List.map_append,List.filter_cons,List.filter_nil]
 split <;> rfl
theorem pC (l:List ab) (all:List aa) (i n:Nat):(il l all i n).length≤n:=by
 unfold il
 rw [List.length_map]
 have:=List.length_filter_le (lF l all i) (List.range n)
 rw [List.length_range] at this; exact this
theorem oK (l:List ab) (all:List aa) (t:Nat):lE l all (t+1)=lE l all t++il l all t all.length:=by
 unfold lE
 rw [List.range_succ,List.flatMap_append]; simp
theorem rf (l:List ab) (all:List aa):∀ t:Nat,(lE l all t).length≤all.length * t
 | 0=>by simp [lE]
 | t+1=>by
  rw [oK,List.length_append,Nat.mul_succ]
  have:=rf l all t
  have:=pC l all t all.length
  omega
theorem j43 {l:List ab} {all:List aa} {P0:List (Int × Int)} {Q:List aa × List (Int × Int)→Prop} (hP:P0.length≤1000) (ha:all.length≤1000) (jS:∀ p∈all,0≤p.Oper∧p.Oper < l.length) (hQ:Q (all,P0++kA l all)):VC43_J1 l Q all P0:=by
 unfold VC43_J1
 refine ⟨fun ps x=>∃ t:Nat,x=t∧t≤all.length∧ps=P0++lE l all t,fun _ x=>(all.length - x).toNat,⟨0,rfl,by omega,by simp [lE]⟩,?_⟩
 rintro _ _ ⟨t,rfl,ht,rfl⟩
 refine ⟨fun hi=>?_,fun hi=>?_⟩
 ·rw [decide_eq_true_eq] at hi
  refine ⟨⟨by omega,hi⟩,fun ps x=>∃ u:Nat,x=u∧u≤all.length∧ps=P0++lE l all t++il l all t u,fun _ x=>(all.length - x).toNat,⟨0,rfl,by omega,by simp [il]⟩,?_⟩
  rintro _ _ ⟨u,rfl,hu,rfl⟩
  have h1:=rf l all t
  have h2:=pC l all t u
  have h3:all.length * t≤1000 * 1000:=Nat.mul_le_mul ha (by omega)
  refine ⟨fun hj=>?_,fun hj=>?_⟩
  ·rw [decide_eq_true_eq] at hj
   refine ⟨⟨by omega,hj⟩,jS _ (ep (by omega) hi),jS _ (ep (by omega) hj),?_⟩
   rintro _ rfl
   refine ⟨fun hc=>⟨by simp; omega,?_⟩,fun hc=>?_⟩ <;> unfold VC43_J4 <;> rw [wrp (n:=(u:Int)+1) (by omega) (by omega)] <;> refine ⟨⟨u+1,by push_cast; rfl,by omega,?_⟩,by dsimp only; omega⟩
   ·rw [np,if_pos (show lF l all t u=true from hc),← List.append_assoc]
   ·rw [np,if_neg (by rw [show lF l all t u=false from hc]; decide),List.append_nil]
  ·rw [decide_eq_false_iff_not] at hj
   have:u=all.length:=by omega
   subst this
   unfold VC43_J3
   rw [wrp (n:=(t:Int)+1) (by omega) (by omega)]
   exact ⟨⟨t+1,by push_cast; rfl,by omega,by rw [oK,← List.append_assoc]⟩,by dsimp only; omega⟩
 ·rw [decide_eq_false_iff_not] at hi
  have:t=all.length:=by omega
  subst this
  exact hQ
theorem v43 (l:List ab) (rows:List (List aa)) (hp:uu l rows):VC43 l rows (fun r=>r=b8 l rows):=by
 obtain ⟨qV,nH⟩:=hp
 unfold VC43
 intro _ hs
 simp only [sm] at hs
 refine ⟨by unfold rD; omega,?_⟩
 rintro _ rfl _
 refine ⟨fun ps a x=>∃ t:Nat,x=t∧t≤rows.length∧a=((rows.take t).flatten.length:Int)∧ps=ew (rows.take t) 0,fun _ _ x=>(rows.length - x).toNat,⟨0,rfl,by omega,rfl,rfl⟩,?_⟩
 rintro _ _ _ ⟨t,rfl,ht,rfl,rfl⟩
 refine ⟨fun hi=>?_,fun hi=>?_⟩
 ·rw [decide_eq_true_eq] at hi
  have Hp:=nM rows (t+1)
  have IV:=kN (L:=rows) (t:=t) (by omega)
  rw [IV,List.length_append] at Hp
  have A6:=km (rows.take t) 0
  generalize hr:gi rows (t:Int)=r at *
  generalize ha:((rows.take t).flatten.length:Int)=a at *
  refine ⟨⟨by omega,hi⟩,fun _=>⟨fun ps x=>∃ u:Nat,x=(u:Int)+1∧u≤r.length - 1∧ps=ew (rows.take t) 0++(List.range u).map fun i:Nat=>(a+i,a+i+1),fun _ x=>(r.length - x).toNat,⟨0,rfl,by omega,by simp⟩,?_⟩⟩
  rintro _ _ ⟨u,rfl,hu,rfl⟩
  refine ⟨fun hj=>?_,fun hj=>?_⟩
  ·rw [decide_eq_true_eq] at hj
   rw [wrp (n:=a+((u:Int)+1)) (by omega) (by omega),wrp (n:=a+((u:Int)+1) - 1) (by omega) (by omega),wrp (n:=(u:Int)+1+1) (by omega) (by omega)]
   refine ⟨by simp; omega,⟨u+1,by push_cast; rfl,by omega,?_⟩,by dsimp only; omega⟩
   rw [List.range_succ,List.map_append,← List.append_assoc]
   congr 1
   simp only [List.map_cons,List.map_nil]
   congr 2 <;> omega
  ·rw [decide_eq_false_iff_not] at hj
   have:u=r.length - 1:=by omega
   subst this
   unfold VC43_J5
   rw [hr,wrp (n:=(t:Int)+1) (by omega) (by omega),wrp (n:=a+(r.length:Int)) (by omega) (by omega)]
   refine ⟨⟨t+1,by push_cast; rfl,by omega,by rw [IV,List.length_append]; push_cast; omega,?_⟩,by dsimp only; omega⟩
   rw [eE (by omega),ju,hr,ha,Int.zero_add]; rfl
 ·rw [decide_eq_false_iff_not] at hi
  have:t=rows.length:=by omega
  subst this
  rw [List.take_length]
  have A6:=km rows 0
  exact j43 (by omega) qV nH rfl
theorem zg {n:Int} {pairs:List (Int × Int)} {out:List Int} {x:Nat} (h:jA n pairs out=some x):(x:Int) < n∧cW x n out pairs=false:=by
 unfold jA at h
 have h1:=List.mem_range.1 (List.mem_of_find?_eq_some h)
 have h2:=List.find?_some h
 exact ⟨by omega,by simpa using h2⟩
def rL (n:Int) (pairs:List (Int × Int)) (out:List Int):Prop:=∀ p∈pairs,dI p n=true→∀ i:Nat,i < out.length→gi out (i:Int)=p.2→∃ j:Nat,j < i∧gi out (j:Int)=p.1
theorem qx {l:List Int} {x:Int} {i:Nat} (h:i < l.length):gi (l++[x]) (i:Int)=gi l (i:Int):=by
 rw [cd _ _ (by simp; omega),cd _ _ h,List.getElem_append_left h]
theorem Bs (l:List Int) (x:Int):gi (l++[x]) (l.length:Int)=x:=by
 rw [cd _ _ (by simp)]; simp
theorem AG {n:Int} {pairs:List (Int × Int)} {out:List Int} {x:Int} (h:rL n pairs out) (hx:cW x n out pairs=false):rL n pairs (out++[x]):=by
 intro p hp hq i hi he
 rw [List.length_append,List.length_singleton] at hi
 by_cases gK:i < out.length
 ·rw [qx gK] at he
  obtain ⟨j,hj,hg⟩:=h p hp hq i gK he
  exact ⟨j,hj,by rw [qx (by omega)]; exact hg⟩
 ·have:i=out.length:=by omega
  subst this
  rw [Bs] at he
  unfold cW at hx
  rw [Bool.or_eq_false_iff] at hx
  have CY:=List.any_eq_false.1 hx.2 p hp
  unfold b9 at CY
  rw [hq,he] at CY
  have hm:p.1∈out:=by simpa using CY
  obtain ⟨j,hj,hg⟩:=List.getElem_of_mem hm
  exact ⟨j,hj,by rw [qx hj,cd _ _ hj]; exact hg⟩
theorem xg {n:Int} {pairs:List (Int × Int)}:∀ (k:Nat) (out:List Int),(hG n pairs k out).2=true→(∀ x∈out,0≤x∧x < n)→out.Nodup→rL n pairs out→(hG n pairs k out).1.length=out.length+k∧(∀ x∈(hG n pairs k out).1,0≤x∧x < n)∧(hG n pairs k out).1.Nodup∧rL n pairs (hG n pairs k out).1
 | 0,out,_,h1,h2,h3=>⟨rfl,h1,h2,h3⟩
 | k+1,out,h,h1,h2,h3=>by
  rw [hG] at h ⊢
  cases e:jA n pairs out with
  | none=>rw [e] at h; cases h
  | some x =>
   rw [e] at h
   dsimp only at h ⊢
   obtain ⟨a,b⟩:=zg e
   have On:(x:Int)∉out:=by
    unfold cW at b
    rw [Bool.or_eq_false_iff,decide_eq_false_iff_not] at b
    exact b.1
   have:=xg k (out++[(x:Int)]) h (fun y hy=>by
    rcases List.mem_append.1 hy with hy | hy
    ·exact h1 y hy
    ·rw [List.mem_singleton] at hy; subst hy; exact ⟨by omega,a⟩) (by
     rw [List.nodup_append]
     exact ⟨h2,by simp,fun y hy z hz=>by rw [List.mem_singleton] at hz; subst hz; rintro rfl; exact On hy⟩) (AG h3 b)
   rw [List.length_append,List.length_singleton] at this
   exact ⟨by omega,this.2⟩
theorem rj {n:Nat} {pairs:List (Int × Int)} (h:(c8 n pairs).2=true):(c8 n pairs).1.length=n∧n≤64∧(∀ x∈(c8 n pairs).1,0≤x∧x < n)∧(c8 n pairs).1.Nodup∧rL n pairs (c8 n pairs).1:=by
 unfold c8 at h ⊢
 by_cases e:(n:Int) < 0∨(n:Int) > 64
 ·rw [if_pos e] at h; cases h
 ·rw [if_neg e] at h ⊢
  obtain ⟨a,b,c,d⟩:=xg (n:=(n:Int)) (pairs:=pairs) ((n:Int)).toNat [] h (fun x hx=>by cases hx) List.nodup_nil (fun p _ _ i hi=>by simp at hi)
  exact ⟨by simpa using a,by omega,b,c,d⟩
theorem BB {h:aj} (he:(cb h).2.2=0):(aA h).2=0∧(bo h).length≤20∧cb h=(bo h,ofH h,0):=by
 unfold cb at he ⊢
 by_cases h1:(aA h).2≠0
 ·rw [if_pos h1] at he; exact absurd he h1
 ·rw [if_neg h1] at he ⊢
  by_cases h2:(bo h).length > 20
  ·rw [if_pos h2] at he; cases he
  ·rw [if_neg h2]; exact ⟨by omega,by omega,rfl⟩
theorem eR (h:aj):(bo h).length=(ofH h).length:=by unfold ofH; rw [List.length_map]
theorem p7 {h:aj} (hc:(aA h).2=0):1≤h.ae.length∧h.ae.length≤8:=by
 have:=(hY hc).2.1
 unfold pb at this
 omega
def fk (l:List ab) (of:List Int) (os:List al) (t:Nat):List (List aa):=(List.range t).map fun j:Nat=>rowOf l of (gi os (j:Int)) (j:Int)
def iA (l:List ab) (of:List Int) (os:List al) (j:Nat):Prop:=(bj (gi os (j:Int)) (dc l of (j:Int))).2=0
theorem lH (l:List ab) (of:List Int) (os:List al) (t:Nat):fk l of os (t+1)=fk l of os t++[rowOf l of (gi os (t:Int)) (t:Int)]:=by
 unfold fk; rw [List.range_succ,List.map_append]; rfl
theorem uw {l:List ab} {of:List Int} {os:List al}:∀ (n t:Nat),t+n=os.length→(∀ j,j < t→iA l of os j) →
  (∃ j,j < os.length∧(∀ i,i < j→iA l of os i)∧¬ iA l of os j∧iP l of (os.drop t) t (fk l of os t)=([],(bj (gi os (j:Int)) (dc l of (j:Int))).2))∨((∀ j,j < os.length→iA l of os j)∧iP l of (os.drop t) t (fk l of os t)=(fk l of os os.length,0))
 | 0,t,h,hok=>by
  right
  have:t=os.length:=by omega
  subst this
  exact ⟨hok,by rw [List.drop_length,iP]⟩
 | n+1,t,h,hok=>by
  rw [pW (l:=l) (of:=of) (os:=os) (t:=t) (by omega)]
  by_cases e:iA l of os t
  ·rw [if_neg (by unfold iA at e; omega),← lH]
   have:=uw (l:=l) (of:=of) (os:=os) n (t+1) (by omega) (fun j hj=>by
    by_cases OA:j=t
    ·rw [OA]; exact e
    ·exact hok j (by omega))
   push_cast at this
   exact this
  ·left
   exact ⟨t,by omega,hok,e,if_pos e⟩
theorem lL (h:aj) (l:List ab) (of:List Int) :
  (∃ j,j < h.ae.length∧(∀ i,i < j→iA l of h.ae i)∧¬ iA l of h.ae j∧cv h l of=([],(bj (gi h.ae (j:Int)) (dc l of (j:Int))).2))∨((∀ j,j < h.ae.length→iA l of h.ae j)∧cv h l of=(fk l of h.ae h.ae.length,0)) :=
 uw h.ae.length 0 (by omega) (fun j hj=>by omega)
theorem AB {h:aj} {l:List ab} {of:List Int} (he:(cv h l of).2=0):(∀ j,j < h.ae.length→iA l of h.ae j)∧(cv h l of).1=fk l of h.ae h.ae.length:=by
 rcases lL h l of with ⟨j,h1,h2,h3,h4⟩ | ⟨h1,h2⟩
 ·rw [h4] at he; exact absurd he h3
 ·exact ⟨h1,by rw [h2]⟩
theorem nD {l:List ab} {of:List Int} {os:List al} {p:aa} {n:Nat}:p∈(fk l of os n).flatten↔∃ j:Nat,j < n∧p∈rowOf l of (gi os (j:Int)) (j:Int):=by
 unfold fk
 rw [List.mem_flatten]
 constructor
 ·rintro ⟨r,hr,hp⟩
  obtain ⟨j,hj,rfl⟩:=List.mem_map.1 hr
  exact ⟨j,List.mem_range.1 hj,hp⟩
 ·rintro ⟨j,hj,hp⟩
  exact ⟨_,List.mem_map.2 ⟨j,List.mem_range.2 hj,rfl⟩,hp⟩
theorem n8 {l:List ab} {of:List Int} (hl:l.length=of.length) {os:List al} {j:Nat} (hok:iA l of os j) {p:aa} (hp:p∈rowOf l of (gi os (j:Int)) (j:Int)):p.Oper∈aS of (j:Int):=by
 unfold rowOf at hp
 obtain ⟨q,hq,rfl⟩:=List.mem_map.1 hp
 have:=(lR hok).2 q.Oper (kG hq)
 have hn:(dc l of (j:Int)).length=(aS of (j:Int)).length:=by rw [lM hl,List.length_map]
 exact ep this.1 (by omega)
theorem mR {of:List Int} {k i:Int} (h:i∈aS of k):0≤i∧i < of.length∧gi of i=k:=by rw [gb] at h; exact l7.1 h
theorem CJ {l:List ab} {of:List Int} (hl:l.length=of.length) {os:List al} {j:Nat} (hok:iA l of os j):(rowOf l of (gi os (j:Int)) (j:Int)).length≤l.length:=by
 unfold rowOf
 rw [List.length_map]
 have h1:=ou hok
 have hn:(dc l of (j:Int)).length=(aS of (j:Int)).length:=by rw [lM hl,List.length_map]
 have h2:=nB of (j:Int) of.length
 rw [← gb] at h2
 omega
theorem ud {l:List ab} {of:List Int} (hl:l.length=of.length) {os:List al}:∀ n:Nat,(∀ j,j < n→iA l of os j)→(fk l of os n).flatten.length≤l.length * n
 | 0,_=>by simp [fk]
 | n+1,h=>by
  have h1:=ud hl n (fun j hj=>h j (by omega))
  have h2:=CJ hl (h n (by omega))
  have h3:[rowOf l of (gi os (n:Int)) (n:Int)].flatten=rowOf l of (gi os (n:Int)) (n:Int):=by simp
  rw [lH,List.flatten_append,List.length_append,Nat.mul_succ,h3]
  omega
theorem Ax {h:aj} (hc:(aA h).2=0) (h20:(bo h).length≤20) (he:(cv h (bo h) (ofH h)).2=0):uu (bo h) (cv h (bo h) (ofH h)).1:=by
 obtain ⟨h1,h2⟩:=AB he
 rw [h2]
 have ho:=p7 hc
 have h3:=ud (eR h) (os:=h.ae) h.ae.length h1
 have h4:(bo h).length * h.ae.length≤20 * 8:=Nat.mul_le_mul h20 ho.2
 refine ⟨by omega,fun p hp=>?_⟩
 obtain ⟨j,hj,FA⟩:=nD.1 hp
 have:=mR (n8 (eR h) (h1 j hj) FA)
 have:=eR h
 omega
theorem v15 (h:aj) (hp:fV h):VC15 h (fun r=>r=bP h):=by
 unfold VC15
 intro _ _
 refine ⟨hp,?_⟩
 rintro _ rfl _ _
 unfold bP
 refine ⟨fun he=>by rw [if_pos (by simpa using he)],fun he=>?_⟩
 have he:(cb h).2.2=0:=by simpa using he
 obtain ⟨hc,h20,C5⟩:=BB he
 rw [if_neg (by omega),C5]
 dsimp only
 refine ⟨⟨hp,eR h,by omega,(p7 hc).2⟩,?_⟩
 rintro _ rfl _
 refine ⟨fun Hr=>by rw [if_pos (by simpa using Hr)],fun Hr=>?_⟩
 have Hr:(cv h (bo h) (ofH h)).2=0:=by simpa using Hr
 rw [if_neg (by omega)]
 refine ⟨Ax hc h20 Hr,?_⟩
 generalize (cv h (bo h) (ofH h)).1=rows
 rintro _ rfl _ _
 have hj:c8 (((b8 (bo h) rows).1.length:Nat):Int) (b8 (bo h) rows).2=jF (bo h) rows:=rfl
 rw [hj]
 rintro _ rfl _
 refine ⟨fun hn=>by rw [if_pos (by simpa using hn)],fun hn=>?_⟩
 have hn:(jF (bo h) rows).2=true:=by simpa using hn
 rw [if_neg (by rw [hn]; decide)]
 have hb:(b8 (bo h) rows).1=rows.flatten:=rfl
 rw [hb]
 obtain ⟨s1,s2,s3,_,_⟩:=rj (n:=rows.flatten.length) (pairs:=(b8 (bo h) rows).2) hn
 have OC:jF (bo h) rows=c8 ((rows.flatten.length:Nat):Int) (b8 (bo h) rows).2:=rfl
 rw [← OC] at s1 s3
 generalize (jF (bo h) rows).1=ord at s1 s3 ⊢
 refine ⟨fun out x=>∃ t:Nat,x=t∧t≤ord.length∧out=(ord.take t).map (gi rows.flatten),fun _ x=>(ord.length - x).toNat,⟨0,rfl,by omega,rfl⟩,?_⟩
 rintro _ _ ⟨t,rfl,ht,rfl⟩
 refine ⟨fun hi=>?_,fun hi=>?_⟩
 ·rw [decide_eq_true_eq] at hi
  rw [wrp (n:=(t:Int)+1) (by omega) (by omega)]
  refine ⟨⟨by omega,hi⟩,s3 _ (ep (by omega) hi),by simp; omega,⟨t+1,by push_cast; rfl,by omega,?_⟩,by dsimp only; omega⟩
  rw [eE (by omega),List.map_append]; rfl
 ·rw [decide_eq_false_iff_not] at hi
  unfold VC15_J1
  rw [List.take_of_length_le (by omega)]
theorem v9 (h:aj) (hp:fV h):VC9 h (fun r=>r=eQ h):=by
 unfold VC9
 intro _ _
 refine ⟨hp,?_⟩
 rintro _ rfl _
 unfold eQ
 exact ⟨fun he=>by rw [if_pos (by simpa using he)],fun he=>by rw [if_neg (by simpa using he)]⟩
end Go.Proofs.YteahldlmkheleaaGreat
