/- Time and the JB EU have no Le: IR ends MV. -/
import Derived.Test.YteahldlmkheleaaGreatLV24
set_option linter.all false
namespace Go.Proofs.YteahldlmkheleaaGreat
open Go Go.Sv Go.Pu
def base (rows:List (List aa)) (r:Nat):Nat:=(rows.take r).flatten.length
theorem sa {rows:List (List aa)} {r:Nat} (h:r < rows.length):base rows (r+1)=base rows r+(gi rows (r:Int)).length:=by
 unfold base; rw [kN h,List.length_append]
theorem vm (rows:List (List aa)):base rows rows.length=rows.flatten.length:=by unfold base; rw [List.take_length]
theorem pz {rows:List (List aa)} {r:Nat}:∀ m:Nat,r < m→m≤rows.length→base rows r+(gi rows (r:Int)).length≤base rows m
 | 0,h,_=>by omega
 | m+1,h,hm=>by
  rw [sa (by omega)]
  by_cases e:r=m
  ·subst e; exact Nat.le_refl _
  ·have:=pz m (by omega:r < m) (by omega:m≤rows.length)
   omega
theorem jm {rows:List (List aa)} {r o:Nat} (h:r < rows.length) (ho:o < (gi rows (r:Int)).length):base rows r+o < rows.flatten.length:=by
 have:=pz (rows:=rows) (r:=r) rows.length h (Nat.le_refl _)
 rw [vm] at this
 omega
theorem r9 {rows:List (List aa)} {r o s u:Nat} (hr:r < rows.length) (ho:o < (gi rows (r:Int)).length) (hs:s < rows.length) (hu:u < (gi rows (s:Int)).length) (e:base rows r+o=base rows s+u):r=s∧o=u:=by
 rcases Nat.lt_trichotomy r s with h | h | h
 ·have:=pz (rows:=rows) s h (by omega); omega
 ·subst h; omega
 ·have:=pz (rows:=rows) r h (by omega); omega
theorem tX {rows:List (List aa)}:∀ (t a:Nat),t≤rows.length→a < base rows t→∃ r o:Nat,r < t∧o < (gi rows (r:Int)).length∧a=base rows r+o
 | 0,a,_,ha=>by simp [base] at ha
 | t+1,a,ht,ha=>by
  rw [sa (by omega)] at ha
  by_cases e:a < base rows t
  ·obtain ⟨r,o,h1,h2,h3⟩:=tX t a (by omega) e
   exact ⟨r,o,by omega,h2,h3⟩
  ·exact ⟨t,a - base rows t,by omega,by omega,by omega⟩
theorem l0 {rows:List (List aa)} {a:Nat} (ha:a < rows.flatten.length):∃ r o:Nat,r < rows.length∧o < (gi rows (r:Int)).length∧a=base rows r+o:=tX rows.length a (Nat.le_refl _) (by rw [vm]; exact ha)
theorem qK {rows:List (List aa)} {r o:Nat} (hr:r < rows.length) (ho:o < (gi rows (r:Int)).length):gi rows.flatten ((base rows r+o:Nat):Int)=gi (gi rows (r:Int)) (o:Int):=by
 have e:rows.flatten=((rows.take r).flatten++gi rows (r:Int))++(rows.drop (r+1)).flatten:=by
  rw [← kN hr,← List.flatten_append,List.take_append_drop]
 have hb:base rows r=(rows.take r).flatten.length:=rfl
 rw [cd _ _ (jm hr ho),cd _ _ ho]
 have h1:base rows r+o < (((rows.take r).flatten++gi rows (r:Int))++(rows.drop (r+1)).flatten).length:=by rw [← e]; exact jm hr ho
 have h2:rows.flatten[base rows r+o]'(jm hr ho)=(((rows.take r).flatten++gi rows (r:Int))++(rows.drop (r+1)).flatten)[base rows r+o]'h1:=by
  congr 1
 rw [h2,List.getElem_append_left (by rw [List.length_append]; omega),List.getElem_append_right (by omega)]
 congr 1
 omega
theorem s4 {at_:Int} {n:Nat} {p:Int × Int}:p∈kC at_ n↔∃ o:Nat,o+1 < n∧p=(at_+o,at_+o+1):=by
 unfold kC
 rw [List.mem_map]
 constructor
 ·rintro ⟨o,ho,rfl⟩
  exact ⟨o,by have:=List.mem_range.1 ho; omega,rfl⟩
 ·rintro ⟨o,ho,rfl⟩
  exact ⟨o,List.mem_range.2 (by omega),rfl⟩
theorem kp {rows:List (List aa)} {p:Int × Int}:∀ t:Nat,t≤rows.length→(p∈ew (rows.take t) 0↔∃ r o:Nat,r < t∧o+1 < (gi rows (r:Int)).length∧p=(((base rows r+o:Nat):Int),((base rows r+o+1:Nat):Int)))
 | 0,_=>by simp [ew]
 | t+1,ht=>by
  have ih:=kp (rows:=rows) (p:=p) t (by omega)
  rw [eE (by omega),ju,List.mem_append,ih,s4,Int.zero_add]
  have hb:base rows t=(rows.take t).flatten.length:=rfl
  constructor
  ·rintro (⟨r,o,h1,h2,h3⟩ | ⟨o,h1,h2⟩)
   ·exact ⟨r,o,by omega,h2,h3⟩
   ·exact ⟨t,o,by omega,h1,by rw [h2,hb]; push_cast; rfl⟩
  ·rintro ⟨r,o,h1,h2,h3⟩
   by_cases e:r=t
   ·subst e
    exact .inr ⟨o,h2,by rw [h3,hb]; push_cast; rfl⟩
   ·exact .inl ⟨r,o,by omega,h2,h3⟩
theorem mA {l:List ab} {all:List aa} {p:Int × Int}:p∈kA l all↔∃ i j:Nat,i < all.length∧j < all.length∧lF l all i j=true∧p=((i:Int),(j:Int)):=by
 unfold kA il
 rw [List.mem_flatMap]
 constructor
 ·rintro ⟨i,hi,hp⟩
  obtain ⟨j,hj,rfl⟩:=List.mem_map.1 hp
  rw [List.mem_filter,List.mem_range] at hj
  exact ⟨i,j,List.mem_range.1 hi,hj.1,hj.2,rfl⟩
 ·rintro ⟨i,j,hi,hj,ht,rfl⟩
  exact ⟨i,List.mem_range.2 hi,List.mem_map.2 ⟨j,by rw [List.mem_filter,List.mem_range]; exact ⟨hj,ht⟩,rfl⟩⟩
def sA (l:List ab) (rows:List (List aa)):Prop:=(∀ p∈rows.flatten,da (gi l p.Oper)=0)∧∀ r o u:Nat,r < rows.length→o < u→u < (gi rows (r:Int)).length→bb (gi l (gi (gi rows (r:Int)) (u:Int)).Oper) (gi l (gi (gi rows (r:Int)) (o:Int)).Oper)=false
theorem mX (out:List Int) (b:Nat):∀ o:Nat,((b+o:Nat):Int)∉out→∃ u:Nat,u≤o∧((b+u:Nat):Int)∉out∧∀ v:Nat,v < u→((b+v:Nat):Int)∈out
 | 0,h=>⟨0,by omega,h,fun v hv=>by omega⟩
 | o+1,h=>by
  by_cases e:∃ v:Nat,v < o+1∧((b+v:Nat):Int)∉out
  ·obtain ⟨v,hv,hn⟩:=e
   obtain ⟨u,h1,h2,h3⟩:=mX out b v hn
   exact ⟨u,by omega,h2,h3⟩
  ·exact ⟨o+1,by omega,h,fun v hv=>Classical.byContradiction (fun hn=>e ⟨v,hv,hn⟩)⟩
 termination_by o=>o
 decreasing_by omega
def zD (rows:List (List aa)) (out:List Int) (x:Nat):Prop:=(x:Int)∉out∧∃ r o:Nat,r < rows.length∧o < (gi rows (r:Int)).length∧x=base rows r+o∧∀ v:Nat,v < o→((base rows r+v:Nat):Int)∈out
def su (l:List ab) (all:List aa) (x:Nat):Nat:=(gi l (gi all (x:Int)).Oper).aD.toNat
theorem qk {rows:List (List aa)} {out:List Int} {f:Nat→Nat}:∀ m:Nat,(∃ x,zD rows out x∧f x≤m)→∃ x,zD rows out x∧∀ y,zD rows out y→f x≤f y
 | 0,⟨x,h1,h2⟩=>⟨x,h1,fun y _=>by omega⟩
 | m+1,⟨x,h1,h2⟩=>by
  by_cases e:∃ y,zD rows out y∧f y < f x
  ·obtain ⟨y,h3,h4⟩:=e
   exact qk m ⟨y,h3,by omega⟩
  ·exact ⟨x,h1,fun y hy=>Classical.byContradiction (fun hn=>e ⟨y,hy,by omega⟩)⟩
theorem Bt {n:Nat} {out:List Int} (hl:out.length < n):∃ a:Nat,a < n∧(a:Int)∉out:=by
 refine Classical.byContradiction (fun hn=>?_)
 have hd:((List.range n).map fun i:Nat=>(i:Int)).Nodup:=by
  unfold List.Nodup
  rw [List.pairwise_map]
  exact List.Pairwise.imp (fun h e=>h (by omega)) (List.nodup_range (n:=n))
 have:=lP (b:=out) hd (fun x hx=>by
  obtain ⟨i,hi,rfl⟩:=List.mem_map.1 hx
  exact Classical.byContradiction (fun hh=>hn ⟨i,List.mem_range.1 hi,hh⟩))
 rw [List.length_map,List.length_range] at this
 omega
theorem Df {rows:List (List aa)} {out:List Int} {x:Nat} (h:zD rows out x):x < rows.flatten.length:=by
 obtain ⟨_,r,o,h1,h2,h3,_⟩:=h
 rw [h3]; exact jm h1 h2
theorem yM {l:List ab} {rows:List (List aa)} (hr:sA l rows) {out:List Int} (hl:out.length < rows.flatten.length):jA (rows.flatten.length:Nat) (b8 l rows).2 out≠none:=by
 intro hno
 have O5:∀ x:Nat,x < rows.flatten.length→cW x (rows.flatten.length:Nat) out (b8 l rows).2=true:=fun x hx=>by
  unfold jA at hno
  rw [List.find?_eq_none] at hno
  have:=hno x (List.mem_range.2 (by omega))
  simpa using this
 obtain ⟨a,ha,Oo⟩:=Bt hl
 obtain ⟨r,o,h1,h2,rfl⟩:=l0 ha
 obtain ⟨u,h3,h4,h5⟩:=mX out (base rows r) o Oo
 obtain ⟨x,hx,KH⟩:=qk (rows:=rows) (out:=out) (f:=su l rows.flatten) (su l rows.flatten (base rows r+u)) ⟨_,⟨h4,r,u,h1,by omega,rfl,h5⟩,Nat.le_refl _⟩
 have NY:=Df hx
 have hw:=O5 x NY
 obtain ⟨NX,r0,o0,r1,r2,rfl,r3⟩:=hx
 unfold cW at hw
 rw [decide_eq_false NX,Bool.false_or] at hw
 obtain ⟨p,hp,hq⟩:=List.any_eq_true.1 hw
 unfold b9 at hq
 rw [Bool.and_eq_true,Bool.and_eq_true] at hq
 obtain ⟨⟨_,Mr⟩,Mq⟩:=hq
 have Fz:p.2=((base rows r0+o0:Nat):Int):=by simpa using Mr
 have IT:p.1∉out:=by simpa using Mq
 clear Mr Mq
 have hp:p∈ew rows 0++kA l rows.flatten:=hp
 rcases List.mem_append.1 hp with hp | hp
 ·have:=kp (rows:=rows) (p:=p) rows.length (Nat.le_refl _)
  rw [List.take_length] at this
  obtain ⟨s,v,s1,s2,rfl⟩:=this.1 hp
  dsimp only at Fz IT
  obtain ⟨e1,e2⟩:=r9 s1 s2 r1 r2 (by omega)
  subst e1
  exact IT (r3 v (by omega))
 ·obtain ⟨i,j,i1,j1,ht,rfl⟩:=mA.1 hp
  dsimp only at Fz IT
  have hj:j=base rows r0+o0:=by omega
  subst hj
  unfold lF bb at ht
  rw [Bool.and_eq_true,decide_eq_true_eq,decide_eq_true_eq] at ht
  obtain ⟨s,v,s1,s2,rfl⟩:=l0 i1
  obtain ⟨w,w1,w2,w3⟩:=mX out (base rows s) v IT
  have hc:zD rows out (base rows s+w):=⟨w2,s,w,s1,by omega,rfl,w3⟩
  have hm:=KH _ hc
  unfold su at hm
  have K5:=hr.1 (gi rows.flatten ((base rows s+w:Nat):Int)) (ep (by omega) (by have:=jm s1 (by omega:w < _); omega))
  have K4:=hr.1 (gi rows.flatten ((base rows r0+o0:Nat):Int)) (ep (by omega) (by omega))
  have a1:=en K5
  have a2:=en K4
  by_cases e:w=v
  ·subst e; omega
  ·have Kw:=hr.2 s w v s1 (by omega) s2
   rw [← qK s1 s2,← qK s1 (by omega:w < _)] at Kw
   unfold bb at Kw
   rw [Bool.and_eq_false_iff,decide_eq_false_iff_not,decide_eq_false_iff_not] at Kw
   omega
theorem pI {l:List ab} {rows:List (List aa)} (hr:sA l rows):∀ (k:Nat) (out:List Int),out.length+k=rows.flatten.length→(hG (rows.flatten.length:Nat) (b8 l rows).2 k out).2=true
 | 0,out,_=>rfl
 | k+1,out,h=>by
  rw [hG]
  cases e:jA (rows.flatten.length:Nat) (b8 l rows).2 out with
  | none=>exact absurd e (yM hr (by omega))
  | some x=>exact pI hr k _ (by rw [List.length_append,List.length_singleton]; omega)
theorem wE {l:List ab} {rows:List (List aa)} (hr:sA l rows) (h64:rows.flatten.length≤64):(jF l rows).2=true:=by
 unfold jF c8
 rw [if_neg (by omega)]
 exact pI hr _ [] (by simp)
theorem pM (l:List ab) (of:List Int) (os:List al) (n:Nat):(fk l of os n).length=n:=by unfold fk; simp
theorem sx {l:List ab} {of:List Int} {os:List al} {n r:Nat} (h:r < n):gi (fk l of os n) (r:Int)=rowOf l of (gi os (r:Int)) (r:Int):=by
 unfold fk
 rw [cd _ _ (by simp; exact h)]; simp
def me (h:aj) (j:Nat):List aa:=(bj (gi h.ae (j:Int)) (dc (bo h) (ofH h) (j:Int))).1
theorem wb (h:aj) (j:Nat):rowOf (bo h) (ofH h) (gi h.ae (j:Int)) (j:Int)=(me h j).map (fP (aS (ofH h) (j:Int))):=rfl
theorem ns {h:aj} {j:Nat} (hok:iA (bo h) (ofH h) h.ae j):cY (gi h.ae (j:Int)) (dc (bo h) (ofH h) (j:Int)) (me h j)=true:=(uZ hok).2
theorem l3 {h:aj} {j:Nat} (hok:iA (bo h) (ofH h) h.ae j):(opers (me h j)).Nodup∧∀ p∈me h j,0≤p.Oper∧p.Oper < (dc (bo h) (ofH h) (j:Int)).length:=⟨(lR hok).1,fun p hp=>(lR hok).2 _ (kG hp)⟩
theorem EO {h:aj} {j o:Nat} (ho:o < (me h j).length):gi (rowOf (bo h) (ofH h) (gi h.ae (j:Int)) (j:Int)) (o:Int)=fP (aS (ofH h) (j:Int)) (gi (me h j) (o:Int)):=by
 rw [wb]; exact iZ _ (by omega) (by omega)
theorem ue {h:aj} {j o:Nat} (hok:iA (bo h) (ofH h) h.ae j) (ho:o < (me h j).length):gi (bo h) (gi (rowOf (bo h) (ofH h) (gi h.ae (j:Int)) (j:Int)) (o:Int)).Oper=gi (dc (bo h) (ofH h) (j:Int)) (gi (me h j) (o:Int)).Oper:=by
 rw [EO ho]
 have jS:=(l3 hok).2 _ (ep (l:=me h j) (i:=(o:Int)) (by omega) (by omega))
 obtain ⟨n,hn⟩:=Int.eq_ofNat_of_zero_le jS.1
 show gi (bo h) (gi (aS (ofH h) (j:Int)) (gi (me h j) (o:Int)).Oper)=_
 rw [hn]
 exact ((p9 h (j:Int)).2.1 n (by omega)).1.symm
theorem CI {h:aj} (hc:(aA h).2=0) (hok:∀ j,j < h.ae.length→iA (bo h) (ofH h) h.ae j):sA (bo h) (fk (bo h) (ofH h) h.ae h.ae.length):=by
 have H:=l6 (hY hc).1
 have hH:opsOf (bk h)=bo h:=rfl
 rw [hH] at H
 refine ⟨fun p hp=>?_,fun r o u hr QV hu=>?_⟩
 ·obtain ⟨j,hj,FA⟩:=nD.1 hp
  have:=mR (n8 (eR h) (hok j hj) FA)
  have hl:=eR h
  obtain ⟨n,hn⟩:=Int.eq_ofNat_of_zero_le this.1
  rw [hn]
  exact (H.one n (by omega)).1
 ·rw [pM] at hr
  rw [sx hr] at hu ⊢
  have Cd:(rowOf (bo h) (ofH h) (gi h.ae (r:Int)) (r:Int)).length=(me h r).length:=by rw [wb,List.length_map]
  rw [Cd] at hu
  rw [ue (hok r hr) (by omega),ue (hok r hr) (by omega),← Bool.not_eq_true]
  intro ha
  have jS:=(l3 (hok r hr)).2 _ (ep (l:=me h r) (i:=(u:Int)) (by omega) (by omega))
  obtain ⟨n,hn⟩:=Int.eq_ofNat_of_zero_le jS.1
  rw [hn] at ha
  have:=yx (ns (hok r hr)) (y:=o) (k:=n) (by omega) (by omega) ha
  rw [mP] at this
  obtain ⟨j,j1,j2,j3⟩:=nC.1 this
  rw [iM] at j2
  have:=qd (l3 (hok r hr)).1 (i:=j) (j:=u) (by rw [iM]; exact j2) (by rw [iM]; exact hu) (by rw [j3,nz hu,hn])
  omega
theorem pL {h:aj}:∀ n:Nat,(∀ j,j < n→iA (bo h) (ofH h) h.ae j)→(opers (fk (bo h) (ofH h) h.ae n).flatten).Nodup
 | 0,_=>by simp [fk,opers]
 | n+1,hok=>by
  have ih:=pL (h:=h) n (fun j hj=>hok j (by omega))
  have h3:[rowOf (bo h) (ofH h) (gi h.ae (n:Int)) (n:Int)].flatten=rowOf (bo h) (ofH h) (gi h.ae (n:Int)) (n:Int):=by simp
  rw [lH,List.flatten_append,h3]
  have ho:∀ a b:List aa,opers (a++b)=opers a++opers b:=fun a b=>by unfold opers; rw [List.map_append]
  rw [ho,List.nodup_append]
  refine ⟨ih,?_,fun a ha b hb e=>?_⟩
  ·rw [wb,ze]
   have hs:=l3 (hok n (by omega))
   unfold List.Nodup
   rw [List.pairwise_map]
   refine List.Pairwise.imp_of_mem (fun {x y} hx hy hne e=>hne ?_) hs.1
   obtain ⟨p,hp,rfl⟩:=wA.1 hx
   obtain ⟨q,hq,rfl⟩:=wA.1 hy
   exact sX (p9 h (n:Int)) (hs.2 p hp).1 (hs.2 p hp).2 (hs.2 q hq).1 (hs.2 q hq).2 e
  ·subst e
   obtain ⟨p,hp,rfl⟩:=wA.1 ha
   obtain ⟨q,hq,e⟩:=wA.1 hb
   obtain ⟨j,hj,FA⟩:=nD.1 hp
   have h1:=mR (n8 (eR h) (hok j (by omega)) FA)
   have h2:=mR (n8 (eR h) (hok n (by omega)) hq)
   rw [e] at h2
   omega
theorem xi {h:aj} (h20:(bo h).length≤20) (hok:∀ j,j < h.ae.length→iA (bo h) (ofH h) h.ae j):(fk (bo h) (ofH h) h.ae h.ae.length).flatten.length≤20:=by
 have h1:=pL h.ae.length hok
 have:=lP (b:=(List.range (bo h).length).map fun i:Nat=>(i:Int)) h1 (fun x hx=>by
  obtain ⟨p,hp,rfl⟩:=wA.1 hx
  obtain ⟨j,hj,FA⟩:=nD.1 hp
  have h1:=mR (n8 (eR h) (hok j hj) FA)
  have hl:=eR h
  exact List.mem_map.2 ⟨p.Oper.toNat,List.mem_range.2 (by omega),by omega⟩)
 rw [iM,List.length_map,List.length_range] at this
 omega
theorem xQ {h:aj} (hc:(aA h).2=0) (h20:(bo h).length≤20) (hok:∀ j,j < h.ae.length→iA (bo h) (ofH h) h.ae j):(jF (bo h) (fk (bo h) (ofH h) h.ae h.ae.length)).2=true :=
 wE (CI hc hok) (by have:=xi h20 hok; omega)
end Go.Proofs.YteahldlmkheleaaGreat
