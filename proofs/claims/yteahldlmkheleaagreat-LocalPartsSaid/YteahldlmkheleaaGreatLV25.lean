/- Time and the J2 Fe have no LM: Jh ends ND. -/
import Derived.Test.YteahldlmkheleaaGreatLV24
set_option linter.all false
namespace Go.Proofs.YteahldlmkheleaaGreat
open Go Go.Sv Go.Pu
def base (rows:List (List aa)) (r:Nat):Nat:=(rows.take r).flatten.length
theorem rW {rows:List (List aa)} {r:Nat} (h:r < rows.length):base rows (r+1)=base rows r+(gi rows (r:Int)).length:=by
 unfold base; rw [kN h,List.length_append]
theorem u6 (rows:List (List aa)):base rows rows.length=rows.flatten.length:=by unfold base; rw [List.take_length]
theorem pw {rows:List (List aa)} {r:Nat}:∀ m:Nat,r < m→m≤rows.length→base rows r+(gi rows (r:Int)).length≤base rows m
 | 0,h,_=>by omega
 | m+1,h,hm=>by
  rw [rW (by omega)]
  by_cases e:r=m
  ·subst e; exact Nat.le_refl _
  ·have:=pw m (by omega:r < m) (by omega:m≤rows.length)
   omega
theorem jr {rows:List (List aa)} {r o:Nat} (h:r < rows.length) (ho:o < (gi rows (r:Int)).length):base rows r+o < rows.flatten.length:=by
 have:=pw (rows:=rows) (r:=r) rows.length h (Nat.le_refl _)
 rw [u6] at this
 omega
theorem rV {rows:List (List aa)} {r o s u:Nat} (hr:r < rows.length) (ho:o < (gi rows (r:Int)).length) (hs:s < rows.length) (hu:u < (gi rows (s:Int)).length) (e:base rows r+o=base rows s+u):r=s∧o=u:=by
 rcases Nat.lt_trichotomy r s with h | h | h
 ·have:=pw (rows:=rows) s h (by omega); omega
 ·subst h; omega
 ·have:=pw (rows:=rows) r h (by omega); omega
theorem tK {rows:List (List aa)}:∀ (t a:Nat),t≤rows.length→a < base rows t→∃ r o:Nat,r < t∧o < (gi rows (r:Int)).length∧a=base rows r+o
 | 0,a,_,ha=>by simp [base] at ha
 | t+1,a,ht,ha=>by
  rw [rW (by omega)] at ha
  by_cases e:a < base rows t
  ·obtain ⟨r,o,h1,h2,h3⟩:=tK t a (by omega) e
   exact ⟨r,o,by omega,h2,h3⟩
  ·exact ⟨t,a - base rows t,by omega,by omega,by omega⟩
theorem lW {rows:List (List aa)} {a:Nat} (ha:a < rows.flatten.length):∃ r o:Nat,r < rows.length∧o < (gi rows (r:Int)).length∧a=base rows r+o:=tK rows.length a (Nat.le_refl _) (by rw [u6]; exact ha)
theorem qG {rows:List (List aa)} {r o:Nat} (hr:r < rows.length) (ho:o < (gi rows (r:Int)).length):gi rows.flatten ((base rows r+o:Nat):Int)=gi (gi rows (r:Int)) (o:Int):=by
 have e:rows.flatten=((rows.take r).flatten++gi rows (r:Int))++(rows.drop (r+1)).flatten:=by
  rw [← kN hr,← List.flatten_append,List.take_append_drop]
 have hb:base rows r=(rows.take r).flatten.length:=rfl
 rw [bS _ _ (jr hr ho),bS _ _ ho]
 have h1:base rows r+o < (((rows.take r).flatten++gi rows (r:Int))++(rows.drop (r+1)).flatten).length:=by rw [← e]; exact jr hr ho
 have h2:rows.flatten[base rows r+o]'(jr hr ho)=(((rows.take r).flatten++gi rows (r:Int))++(rows.drop (r+1)).flatten)[base rows r+o]'h1:=by
  congr 1
 rw [h2,List.getElem_append_left (by rw [List.length_append]; omega),List.getElem_append_right (by omega)]
 congr 1
 omega
theorem sO {at_:Int} {n:Nat} {p:Int × Int}:p∈kD at_ n↔∃ o:Nat,o+1 < n∧p=(at_+o,at_+o+1):=by
 unfold kD
 rw [List.mem_map]
 constructor
 ·rintro ⟨o,ho,rfl⟩
  exact ⟨o,by have:=List.mem_range.1 ho; omega,rfl⟩
 ·rintro ⟨o,ho,rfl⟩
  exact ⟨o,List.mem_range.2 (by omega),rfl⟩
theorem ko {rows:List (List aa)} {p:Int × Int}:∀ t:Nat,t≤rows.length→(p∈ew (rows.take t) 0↔∃ r o:Nat,r < t∧o+1 < (gi rows (r:Int)).length∧p=(((base rows r+o:Nat):Int),((base rows r+o+1:Nat):Int)))
 | 0,_=>by simp [ew]
 | t+1,ht=>by
  have ih:=ko (rows:=rows) (p:=p) t (by omega)
  rw [e9 (by omega),jx,List.mem_append,ih,sO,Int.zero_add]
  have hb:base rows t=(rows.take t).flatten.length:=rfl
  constructor
  ·rintro (⟨r,o,h1,h2,h3⟩ | ⟨o,h1,h2⟩)
   ·exact ⟨r,o,by omega,h2,h3⟩
   ·exact ⟨t,o,by omega,h1,by rw [h2,hb]; push_cast; rfl⟩
  ·rintro ⟨r,o,h1,h2,h3⟩
   by_cases e:r=t
   ·subst e
    exact .inr ⟨o,h2,by rw [h3,hb]; push_cast; rfl⟩
   ·exact .inl ⟨r,o,by omega,h2,h3⟩
theorem mu {l:List ab} {all:List aa} {p:Int × Int}:p∈kB l all↔∃ i j:Nat,i < all.length∧j < all.length∧lG l all i j=true∧p=((i:Int),(j:Int)):=by
 unfold kB ig
 rw [List.mem_flatMap]
 constructor
 ·rintro ⟨i,hi,hp⟩
  obtain ⟨j,hj,rfl⟩:=List.mem_map.1 hp
  rw [List.mem_filter,List.mem_range] at hj
  exact ⟨i,j,List.mem_range.1 hi,hj.1,hj.2,rfl⟩
 ·rintro ⟨i,j,hi,hj,ht,rfl⟩
  exact ⟨i,List.mem_range.2 hi,List.mem_map.2 ⟨j,by rw [List.mem_filter,List.mem_range]; exact ⟨hj,ht⟩,rfl⟩⟩
def sj (l:List ab) (rows:List (List aa)):Prop:=(∀ p∈rows.flatten,df (gi l p.Oper)=0)∧∀ r o u:Nat,r < rows.length→o < u→u < (gi rows (r:Int)).length→bh (gi l (gi (gi rows (r:Int)) (u:Int)).Oper) (gi l (gi (gi rows (r:Int)) (o:Int)).Oper)=false
theorem mO (out:List Int) (b:Nat):∀ o:Nat,((b+o:Nat):Int)∉out→∃ u:Nat,u≤o∧((b+u:Nat):Int)∉out∧∀ v:Nat,v < u→((b+v:Nat):Int)∈out
 | 0,h=>⟨0,by omega,h,fun v hv=>by omega⟩
 | o+1,h=>by
  by_cases e:∃ v:Nat,v < o+1∧((b+v:Nat):Int)∉out
  ·obtain ⟨v,hv,hn⟩:=e
   obtain ⟨u,h1,h2,h3⟩:=mO out b v hn
   exact ⟨u,by omega,h2,h3⟩
  ·exact ⟨o+1,by omega,h,fun v hv=>Classical.byContradiction (fun hn=>e ⟨v,hv,hn⟩)⟩
 termination_by o=>o
 decreasing_by omega
def zn (rows:List (List aa)) (out:List Int) (x:Nat):Prop:=(x:Int)∉out∧∃ r o:Nat,r < rows.length∧o < (gi rows (r:Int)).length∧x=base rows r+o∧∀ v:Nat,v < o→((base rows r+v:Nat):Int)∈out
def sg (l:List ab) (all:List aa) (x:Nat):Nat:=(gi l (gi all (x:Int)).Oper).aF.toNat
theorem ql {rows:List (List aa)} {out:List Int} {f:Nat→Nat}:∀ m:Nat,(∃ x,zn rows out x∧f x≤m)→∃ x,zn rows out x∧∀ y,zn rows out y→f x≤f y
 | 0,⟨x,h1,h2⟩=>⟨x,h1,fun y _=>by omega⟩
 | m+1,⟨x,h1,h2⟩=>by
  by_cases e:∃ y,zn rows out y∧f y < f x
  ·obtain ⟨y,h3,h4⟩:=e
   exact ql m ⟨y,h3,by omega⟩
  ·exact ⟨x,h1,fun y hy=>Classical.byContradiction (fun hn=>e ⟨y,hy,by omega⟩)⟩
theorem Bp {n:Nat} {out:List Int} (hl:out.length < n):∃ a:Nat,a < n∧(a:Int)∉out:=by
 refine Classical.byContradiction (fun hn=>?_)
 have hd:((List.range n).map fun i:Nat=>(i:Int)).Nodup:=by
  unfold List.Nodup
  rw [List.pairwise_map]
  exact List.Pairwise.imp (fun h e=>h (by omega)) (List.nodup_range (n:=n))
 have:=lO (b:=out) hd (fun x hx=>by
  obtain ⟨i,hi,rfl⟩:=List.mem_map.1 hx
  exact Classical.byContradiction (fun hh=>hn ⟨i,List.mem_range.1 hi,hh⟩))
 rw [List.length_map,List.length_range] at this
 omega
theorem Dn {rows:List (List aa)} {out:List Int} {x:Nat} (h:zn rows out x):x < rows.flatten.length:=by
 obtain ⟨_,r,o,h1,h2,h3,_⟩:=h
 rw [h3]; exact jr h1 h2
theorem yu {l:List ab} {rows:List (List aa)} (hr:sj l rows) {out:List Int} (hl:out.length < rows.flatten.length):jB (rows.flatten.length:Nat) (b9 l rows).2 out≠none:=by
 intro hno
 have PD:∀ x:Nat,x < rows.flatten.length→c6 x (rows.flatten.length:Nat) out (b9 l rows).2=true:=fun x hx=>by
  unfold jB at hno
  rw [List.find?_eq_none] at hno
  have:=hno x (List.mem_range.2 (by omega))
  simpa using this
 obtain ⟨a,ha,OY⟩:=Bp hl
 obtain ⟨r,o,h1,h2,rfl⟩:=lW ha
 obtain ⟨u,h3,h4,h5⟩:=mO out (base rows r) o OY
 obtain ⟨x,hx,Ld⟩:=ql (rows:=rows) (out:=out) (f:=sg l rows.flatten) (sg l rows.flatten (base rows r+u)) ⟨_,⟨h4,r,u,h1,by omega,rfl,h5⟩,Nat.le_refl _⟩
 have Oq:=Dn hx
 have hw:=PD x Oq
 obtain ⟨Oo,r0,o0,r1,r2,rfl,r3⟩:=hx
 unfold c6 at hw
 rw [decide_eq_false Oo,Bool.false_or] at hw
 obtain ⟨p,hp,hq⟩:=List.any_eq_true.1 hw
 unfold ca at hq
 rw [Bool.and_eq_true,Bool.and_eq_true] at hq
 obtain ⟨⟨_,M4⟩,M3⟩:=hq
 have yY:p.2=((base rows r0+o0:Nat):Int):=by simpa using M4
 have Jl:p.1∉out:=by simpa using M3
 clear M4 M3
 have hp:p∈ew rows 0++kB l rows.flatten:=hp
 rcases List.mem_append.1 hp with hp | hp
 ·have:=ko (rows:=rows) (p:=p) rows.length (Nat.le_refl _)
  rw [List.take_length] at this
  obtain ⟨s,v,s1,s2,rfl⟩:=this.1 hp
  dsimp only at yY Jl
  obtain ⟨e1,e2⟩:=rV s1 s2 r1 r2 (by omega)
  subst e1
  exact Jl (r3 v (by omega))
 ·obtain ⟨i,j,i1,j1,ht,rfl⟩:=mu.1 hp
  dsimp only at yY Jl
  have hj:j=base rows r0+o0:=by omega
  subst hj
  unfold lG bh at ht
  rw [Bool.and_eq_true,decide_eq_true_eq,decide_eq_true_eq] at ht
  obtain ⟨s,v,s1,s2,rfl⟩:=lW i1
  obtain ⟨w,w1,w2,w3⟩:=mO out (base rows s) v Jl
  have hc:zn rows out (base rows s+w):=⟨w2,s,w,s1,by omega,rfl,w3⟩
  have hm:=Ld _ hc
  unfold sg at hm
  have LC:=hr.1 (gi rows.flatten ((base rows s+w:Nat):Int)) (dq (by omega) (by have:=jr s1 (by omega:w < _); omega))
  have LB:=hr.1 (gi rows.flatten ((base rows r0+o0:Nat):Int)) (dq (by omega) (by omega))
  have a1:=fo LC
  have a2:=fo LB
  by_cases e:w=v
  ·subst e; omega
  ·have K1:=hr.2 s w v s1 (by omega) s2
   rw [← qG s1 s2,← qG s1 (by omega:w < _)] at K1
   unfold bh at K1
   rw [Bool.and_eq_false_iff,decide_eq_false_iff_not,decide_eq_false_iff_not] at K1
   omega
theorem pI {l:List ab} {rows:List (List aa)} (hr:sj l rows):∀ (k:Nat) (out:List Int),out.length+k=rows.flatten.length→(gX (rows.flatten.length:Nat) (b9 l rows).2 k out).2=true
 | 0,out,_=>rfl
 | k+1,out,h=>by
  rw [gX]
  cases e:jB (rows.flatten.length:Nat) (b9 l rows).2 out with
  | none=>exact absurd e (yu hr (by omega))
  | some x=>exact pI hr k _ (by rw [List.length_append,List.length_singleton]; omega)
theorem wj {l:List ab} {rows:List (List aa)} (hr:sj l rows) (h64:rows.flatten.length≤64):(jG l rows).2=true:=by
 unfold jG de
 rw [if_neg (by omega)]
 exact pI hr _ [] (by simp)
theorem pN (l:List ab) (of:List Int) (os:List ah) (n:Nat):(fc l of os n).length=n:=by unfold fc; simp
theorem si {l:List ab} {of:List Int} {os:List ah} {n r:Nat} (h:r < n):gi (fc l of os n) (r:Int)=rowOf l of (gi os (r:Int)) (r:Int):=by
 unfold fc
 rw [bS _ _ (by simp; exact h)]; simp
def nU (h:ak) (j:Nat):List aa:=(bj (gi h.ae (j:Int)) (dp (bp h) (ofH h) (j:Int))).1
theorem vK (h:ak) (j:Nat):rowOf (bp h) (ofH h) (gi h.ae (j:Int)) (j:Int)=(nU h j).map (fR (aP (ofH h) (j:Int))):=rfl
theorem pJ {h:ak} {j:Nat} (hok:gZ (bp h) (ofH h) h.ae j):dh (gi h.ae (j:Int)) (dp (bp h) (ofH h) (j:Int)) (nU h j)=true:=(uK hok).2
theorem nc {h:ak} {j:Nat} (hok:gZ (bp h) (ofH h) h.ae j):(opers (nU h j)).Nodup∧∀ p∈nU h j,0≤p.Oper∧p.Oper < (dp (bp h) (ofH h) (j:Int)).length:=⟨(lR hok).1,fun p hp=>(lR hok).2 _ (nv hp)⟩
theorem E7 {h:ak} {j o:Nat} (ho:o < (nU h j).length):gi (rowOf (bp h) (ofH h) (gi h.ae (j:Int)) (j:Int)) (o:Int)=fR (aP (ofH h) (j:Int)) (gi (nU h j) (o:Int)):=by
 rw [vK]; exact kp _ (by omega) (by omega)
theorem tR {h:ak} {j o:Nat} (hok:gZ (bp h) (ofH h) h.ae j) (ho:o < (nU h j).length):gi (bp h) (gi (rowOf (bp h) (ofH h) (gi h.ae (j:Int)) (j:Int)) (o:Int)).Oper=gi (dp (bp h) (ofH h) (j:Int)) (gi (nU h j) (o:Int)).Oper:=by
 rw [E7 ho]
 have hin:=(nc hok).2 _ (dq (l:=nU h j) (i:=(o:Int)) (by omega) (by omega))
 obtain ⟨n,hn⟩:=Int.eq_ofNat_of_zero_le hin.1
 show gi (bp h) (gi (aP (ofH h) (j:Int)) (gi (nU h j) (o:Int)).Oper)=_
 rw [hn]
 exact ((p9 h (j:Int)).2.1 n (by omega)).1.symm
theorem CL {h:ak} (hc:(aB h).2=0) (hok:∀ j,j < h.ae.length→gZ (bp h) (ofH h) h.ae j):sj (bp h) (fc (bp h) (ofH h) h.ae h.ae.length):=by
 have H:=ph (je hc).1
 have hH:opsOf (bN h)=bp h:=rfl
 rw [hH] at H
 refine ⟨fun p hp=>?_,fun r o u hr Rn hu=>?_⟩
 ·obtain ⟨j,hj,FS⟩:=nt.1 hp
  have:=kX (nX (eA h) (hok j hj) FS)
  have hl:=eA h
  obtain ⟨n,hn⟩:=Int.eq_ofNat_of_zero_le this.1
  rw [hn]
  exact (H.one n (by omega)).1
 ·rw [pN] at hr
  rw [si hr] at hu ⊢
  have Cj:(rowOf (bp h) (ofH h) (gi h.ae (r:Int)) (r:Int)).length=(nU h r).length:=by rw [vK,List.length_map]
  rw [Cj] at hu
  rw [tR (hok r hr) (by omega),tR (hok r hr) (by omega),← Bool.not_eq_true]
  intro ha
  have hin:=(nc (hok r hr)).2 _ (dq (l:=nU h r) (i:=(u:Int)) (by omega) (by omega))
  obtain ⟨n,hn⟩:=Int.eq_ofNat_of_zero_le hin.1
  rw [hn] at ha
  have:=yd (pJ (hok r hr)) (y:=o) (k:=n) (by omega) (by omega) ha
  rw [mK] at this
  obtain ⟨j,j1,j2,j3⟩:=ns.1 this
  rw [gg] at j2
  have:=qd (nc (hok r hr)).1 (i:=j) (j:=u) (by rw [gg]; exact j2) (by rw [gg]; exact hu) (by rw [j3,kF hu,hn])
  omega
theorem pM {h:ak}:∀ n:Nat,(∀ j,j < n→gZ (bp h) (ofH h) h.ae j)→(opers (fc (bp h) (ofH h) h.ae n).flatten).Nodup
 | 0,_=>by simp [fc,opers]
 | n+1,hok=>by
  have ih:=pM (h:=h) n (fun j hj=>hok j (by omega))
  have h3:[rowOf (bp h) (ofH h) (gi h.ae (n:Int)) (n:Int)].flatten=rowOf (bp h) (ofH h) (gi h.ae (n:Int)) (n:Int):=by simp
  rw [lI,List.flatten_append,h3]
  have ho:∀ a b:List aa,opers (a++b)=opers a++opers b:=fun a b=>by unfold opers; rw [List.map_append]
  rw [ho,List.nodup_append]
  refine ⟨ih,?_,fun a ha b hb e=>?_⟩
  ·rw [vK,rE]
   have hs:=nc (hok n (by omega))
   unfold List.Nodup
   rw [List.pairwise_map]
   refine List.Pairwise.imp_of_mem (fun {x y} hx hy hne e=>hne ?_) hs.1
   obtain ⟨p,hp,rfl⟩:=ny.1 hx
   obtain ⟨q,hq,rfl⟩:=ny.1 hy
   exact sM (p9 h (n:Int)) (hs.2 p hp).1 (hs.2 p hp).2 (hs.2 q hq).1 (hs.2 q hq).2 e
  ·subst e
   obtain ⟨p,hp,rfl⟩:=ny.1 ha
   obtain ⟨q,hq,e⟩:=ny.1 hb
   obtain ⟨j,hj,FS⟩:=nt.1 hp
   have h1:=kX (nX (eA h) (hok j (by omega)) FS)
   have h2:=kX (nX (eA h) (hok n (by omega)) hq)
   rw [e] at h2
   omega
theorem CM {h:ak} (h20:(bp h).length≤20) (hok:∀ j,j < h.ae.length→gZ (bp h) (ofH h) h.ae j):(fc (bp h) (ofH h) h.ae h.ae.length).flatten.length≤20:=by
 have h1:=pM h.ae.length hok
 have:=lO (b:=(List.range (bp h).length).map fun i:Nat=>(i:Int)) h1 (fun x hx=>by
  obtain ⟨p,hp,rfl⟩:=ny.1 hx
  obtain ⟨j,hj,FS⟩:=nt.1 hp
  have h1:=kX (nX (eA h) (hok j hj) FS)
  have hl:=eA h
  exact List.mem_map.2 ⟨p.Oper.toNat,List.mem_range.2 (by omega),by omega⟩)
 rw [gg,List.length_map,List.length_range] at this
 omega
theorem xy {h:ak} (hc:(aB h).2=0) (h20:(bp h).length≤20) (hok:∀ j,j < h.ae.length→gZ (bp h) (ofH h) h.ae j):(jG (bp h) (fc (bp h) (ofH h) h.ae h.ae.length)).2=true :=
 wj (CL hc hok) (by have:=CM h20 hok; omega)
end Go.Proofs.YteahldlmkheleaaGreat
