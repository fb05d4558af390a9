/- Time and the parts' orders have no circle: sorting ends well. -/
import Derived.Test.YteahldlmkheleaaGreatLV24
set_option linter.all false
namespace Go.Proofs.YteahldlmkheleaaGreat
open Go Go.Sv Go.Pu
def base (rows:List (List aa)) (r:Nat):Nat:=(rows.take r).flatten.length
theorem tm {rows:List (List aa)} {r:Nat} (h:r < rows.length):base rows (r+1)=base rows r+(gi rows (r:Int)).length:=by
 unfold base; rw [lA h,List.length_append]
theorem wF (rows:List (List aa)):base rows rows.length=rows.flatten.length:=by unfold base; rw [List.take_length]
theorem ql {rows:List (List aa)} {r:Nat}:∀ m:Nat,r < m→m≤rows.length→base rows r+(gi rows (r:Int)).length≤base rows m
 | 0,h,_=>by omega
 | m+1,h,hm=>by
  rw [tm (by omega)]
  by_cases e:r=m
  ·subst e; exact Nat.le_refl _
  ·have:=ql m (by omega:r < m) (by omega:m≤rows.length)
   omega
theorem jR {rows:List (List aa)} {r o:Nat} (h:r < rows.length) (ho:o < (gi rows (r:Int)).length):base rows r+o < rows.flatten.length:=by
 have:=ql (rows:=rows) (r:=r) rows.length h (Nat.le_refl _)
 rw [wF] at this
 omega
theorem tl {rows:List (List aa)} {r o s u:Nat} (hr:r < rows.length) (ho:o < (gi rows (r:Int)).length) (hs:s < rows.length) (hu:u < (gi rows (s:Int)).length) (e:base rows r+o=base rows s+u):r=s∧o=u:=by
 rcases Nat.lt_trichotomy r s with h | h | h
 ·have:=ql (rows:=rows) s h (by omega); omega
 ·subst h; omega
 ·have:=ql (rows:=rows) r h (by omega); omega
theorem u7 {rows:List (List aa)}:∀ (t a:Nat),t≤rows.length→a < base rows t→∃ r o:Nat,r < t∧o < (gi rows (r:Int)).length∧a=base rows r+o
 | 0,a,_,ha=>by simp [base] at ha
 | t+1,a,ht,ha=>by
  rw [tm (by omega)] at ha
  by_cases e:a < base rows t
  ·obtain ⟨r,o,h1,h2,h3⟩:=u7 t a (by omega) e
   exact ⟨r,o,by omega,h2,h3⟩
  ·exact ⟨t,a - base rows t,by omega,by omega,by omega⟩
theorem mL {rows:List (List aa)} {a:Nat} (ha:a < rows.flatten.length):∃ r o:Nat,r < rows.length∧o < (gi rows (r:Int)).length∧a=base rows r+o:=u7 rows.length a (Nat.le_refl _) (by rw [wF]; exact ha)
theorem rK {rows:List (List aa)} {r o:Nat} (hr:r < rows.length) (ho:o < (gi rows (r:Int)).length):gi rows.flatten ((base rows r+o:Nat):Int)=gi (gi rows (r:Int)) (o:Int):=by
 have e:rows.flatten=((rows.take r).flatten++gi rows (r:Int))++(rows.drop (r+1)).flatten:=by
  rw [← lA hr,← List.flatten_append,List.take_append_drop]
 have hb:base rows r=(rows.take r).flatten.length:=rfl
 rw [cq _ _ (jR hr ho),cq _ _ ho]
 have h1:base rows r+o < (((rows.take r).flatten++gi rows (r:Int))++(rows.drop (r+1)).flatten).length:=by rw [← e]; exact jR hr ho
 have h2:rows.flatten[base rows r+o]'(jR hr ho)=(((rows.take r).flatten++gi rows (r:Int))++(rows.drop (r+1)).flatten)[base rows r+o]'h1:=by
  congr 1
 rw [h2,List.getElem_append_left (by rw [List.length_append]; omega),List.getElem_append_right (by omega)]
 congr 1
 omega
theorem uf {at_:Int} {n:Nat} {p:Int × Int}:p∈ll at_ n↔∃ o:Nat,o+1 < n∧p=(at_+o,at_+o+1):=by
 unfold ll
 rw [List.mem_map]
 constructor
 ·rintro ⟨o,ho,rfl⟩
  exact ⟨o,by have:=List.mem_range.1 ho; omega,rfl⟩
 ·rintro ⟨o,ho,rfl⟩
  exact ⟨o,List.mem_range.2 (by omega),rfl⟩
theorem lb {rows:List (List aa)} {p:Int × Int}:∀ t:Nat,t≤rows.length→(p∈eQ (rows.take t) 0↔∃ r o:Nat,r < t∧o+1 < (gi rows (r:Int)).length∧p=(((base rows r+o:Nat):Int),((base rows r+o+1:Nat):Int)))
 | 0,_=>by simp [eQ]
 | t+1,ht=>by
  have ih:=lb (rows:=rows) (p:=p) t (by omega)
  rw [eV (by omega),jZ,List.mem_append,ih,uf,Int.zero_add]
  have hb:base rows t=(rows.take t).flatten.length:=rfl
  constructor
  ·rintro (⟨r,o,h1,h2,h3⟩ | ⟨o,h1,h2⟩)
   ·exact ⟨r,o,by omega,h2,h3⟩
   ·exact ⟨t,o,by omega,h1,by rw [h2,hb]; push_cast; rfl⟩
  ·rintro ⟨r,o,h1,h2,h3⟩
   by_cases e:r=t
   ·subst e
    exact .inr ⟨o,h2,by rw [h3,hb]; push_cast; rfl⟩
   ·exact .inl ⟨r,o,by omega,h2,h3⟩
theorem nq {l:List ab} {all:List aa} {p:Int × Int}:p∈lj l all↔∃ i j:Nat,i < all.length∧j < all.length∧mn l all i j=true∧p=((i:Int),(j:Int)):=by
 unfold lj iQ
 rw [List.mem_flatMap]
 constructor
 ·rintro ⟨i,hi,hp⟩
  obtain ⟨j,hj,rfl⟩:=List.mem_map.1 hp
  rw [List.mem_filter,List.mem_range] at hj
  exact ⟨i,j,List.mem_range.1 hi,hj.1,hj.2,rfl⟩
 ·rintro ⟨i,j,hi,hj,ht,rfl⟩
  exact ⟨i,List.mem_range.2 hi,List.mem_map.2 ⟨j,by rw [List.mem_filter,List.mem_range]; exact ⟨hj,ht⟩,rfl⟩⟩
def tH (l:List ab) (rows:List (List aa)):Prop:=(∀ p∈rows.flatten,dk (gi l p.Oper)=0)∧∀ r o u:Nat,r < rows.length→o < u→u < (gi rows (r:Int)).length→bf (gi l (gi (gi rows (r:Int)) (u:Int)).Oper) (gi l (gi (gi rows (r:Int)) (o:Int)).Oper)=false
theorem nQ (out:List Int) (b:Nat):∀ o:Nat,((b+o:Nat):Int)∉out→∃ u:Nat,u≤o∧((b+u:Nat):Int)∉out∧∀ v:Nat,v < u→((b+v:Nat):Int)∈out
 | 0,h=>⟨0,by omega,h,fun v hv=>by omega⟩
 | o+1,h=>by
  by_cases e:∃ v:Nat,v < o+1∧((b+v:Nat):Int)∉out
  ·obtain ⟨v,hv,hn⟩:=e
   obtain ⟨u,h1,h2,h3⟩:=nQ out b v hn
   exact ⟨u,by omega,h2,h3⟩
  ·exact ⟨o+1,by omega,h,fun v hv=>Classical.byContradiction (fun hn=>e ⟨v,hv,hn⟩)⟩
 termination_by o=>o
 decreasing_by omega
def AR (rows:List (List aa)) (out:List Int) (x:Nat):Prop:=(x:Int)∉out∧∃ r o:Nat,r < rows.length∧o < (gi rows (r:Int)).length∧x=base rows r+o∧∀ v:Nat,v < o→((base rows r+v:Nat):Int)∈out
def tE (l:List ab) (all:List aa) (x:Nat):Nat:=(gi l (gi all (x:Int)).Oper).aG.toNat
theorem re {rows:List (List aa)} {out:List Int} {f:Nat→Nat}:∀ m:Nat,(∃ x,AR rows out x∧f x≤m)→∃ x,AR rows out x∧∀ y,AR rows out y→f x≤f y
 | 0,⟨x,h1,h2⟩=>⟨x,h1,fun y _=>by omega⟩
 | m+1,⟨x,h1,h2⟩=>by
  by_cases e:∃ y,AR rows out y∧f y < f x
  ·obtain ⟨y,h3,h4⟩:=e
   exact re m ⟨y,h3,by omega⟩
  ·exact ⟨x,h1,fun y hy=>Classical.byContradiction (fun hn=>e ⟨y,hy,by omega⟩)⟩
theorem CI {n:Nat} {out:List Int} (hl:out.length < n):∃ a:Nat,a < n∧(a:Int)∉out:=by
 refine Classical.byContradiction (fun hn=>?_)
 have hd:((List.range n).map fun i:Nat=>(i:Int)).Nodup:=by
  unfold List.Nodup
  rw [List.pairwise_map]
  exact List.Pairwise.imp (fun h e=>h (by omega)) (List.nodup_range (n:=n))
 have:=mA (b:=out) hd (fun x hx=>by
  obtain ⟨i,hi,rfl⟩:=List.mem_map.1 hx
  exact Classical.byContradiction (fun hh=>hn ⟨i,List.mem_range.1 hi,hh⟩))
 rw [List.length_map,List.length_range] at this
 omega
theorem Eu {rows:List (List aa)} {out:List Int} {x:Nat} (h:AR rows out x):x < rows.flatten.length:=by
 obtain ⟨_,r,o,h1,h2,h3,_⟩:=h
 rw [h3]; exact jR h1 h2
theorem Ac {l:List ab} {rows:List (List aa)} (hr:tH l rows) {out:List Int} (hl:out.length < rows.flatten.length):kb (rows.flatten.length:Nat) (cg l rows).2 out≠none:=by
 intro hno
 have Qz:∀ x:Nat,x < rows.flatten.length→db x (rows.flatten.length:Nat) out (cg l rows).2=true:=fun x hx=>by
  unfold kb at hno
  rw [List.find?_eq_none] at hno
  have:=hno x (List.mem_range.2 (by omega))
  simpa using this
 obtain ⟨a,ha,PW⟩:=CI hl
 obtain ⟨r,o,h1,h2,rfl⟩:=mL ha
 obtain ⟨u,h3,h4,h5⟩:=nQ out (base rows r) o PW
 obtain ⟨x,hx,L4⟩:=re (rows:=rows) (out:=out) (f:=tE l rows.flatten) (tE l rows.flatten (base rows r+u)) ⟨_,⟨h4,r,u,h1,by omega,rfl,h5⟩,Nat.le_refl _⟩
 have Pv:=Eu hx
 have hw:=Qz x Pv
 obtain ⟨Ps,r0,o0,r1,r2,rfl,r3⟩:=hx
 unfold db at hw
 rw [decide_eq_false Ps,Bool.false_or] at hw
 obtain ⟨p,hp,hq⟩:=List.any_eq_true.1 hw
 unfold cj at hq
 rw [Bool.and_eq_true,Bool.and_eq_true] at hq
 obtain ⟨⟨_,NS⟩,NR⟩:=hq
 have GQ:p.2=((base rows r0+o0:Nat):Int):=by simpa using NS
 have Kh:p.1∉out:=by simpa using NR
 clear NS NR
 have hp:p∈eQ rows 0++lj l rows.flatten:=hp
 rcases List.mem_append.1 hp with hp | hp
 ·have:=lb (rows:=rows) (p:=p) rows.length (Nat.le_refl _)
  rw [List.take_length] at this
  obtain ⟨s,v,s1,s2,rfl⟩:=this.1 hp
  dsimp only at GQ Kh
  obtain ⟨e1,e2⟩:=tl s1 s2 r1 r2 (by omega)
  subst e1
  exact Kh (r3 v (by omega))
 ·obtain ⟨i,j,i1,j1,ht,rfl⟩:=nq.1 hp
  dsimp only at GQ Kh
  have hj:j=base rows r0+o0:=by omega
  subst hj
  unfold mn bf at ht
  rw [Bool.and_eq_true,decide_eq_true_eq,decide_eq_true_eq] at ht
  obtain ⟨s,v,s1,s2,rfl⟩:=mL i1
  obtain ⟨w,w1,w2,w3⟩:=nQ out (base rows s) v Kh
  have hc:AR rows out (base rows s+w):=⟨w2,s,w,s1,by omega,rfl,w3⟩
  have hm:=L4 _ hc
  unfold tE at hm
  have Ms:=hr.1 (gi rows.flatten ((base rows s+w:Nat):Int)) (eJ (by omega) (by have:=jR s1 (by omega:w < _); omega))
  have Mr:=hr.1 (gi rows.flatten ((base rows r0+o0:Nat):Int)) (eJ (by omega) (by omega))
  have a1:=eI Ms
  have a2:=eI Mr
  by_cases e:w=v
  ·subst e; omega
  ·have LS:=hr.2 s w v s1 (by omega) s2
   rw [← rK s1 s2,← rK s1 (by omega:w < _)] at LS
   unfold bf at LS
   rw [Bool.and_eq_false_iff,decide_eq_false_iff_not,decide_eq_false_iff_not] at LS
   omega
theorem qy {l:List ab} {rows:List (List aa)} (hr:tH l rows):∀ (k:Nat) (out:List Int),out.length+k=rows.flatten.length→(iA (rows.flatten.length:Nat) (cg l rows).2 k out).2=true
 | 0,out,_=>rfl
 | k+1,out,h=>by
  rw [iA]
  cases e:kb (rows.flatten.length:Nat) (cg l rows).2 out with
  | none=>exact absurd e (Ac hr (by omega))
  | some x=>exact qy hr k _ (by rw [List.length_append,List.length_singleton]; omega)
theorem xZ {l:List ab} {rows:List (List aa)} (hr:tH l rows) (h64:rows.flatten.length≤64):(ki l rows).2=true:=by
 unfold ki di
 rw [if_neg (by omega)]
 exact qy hr _ [] (by simp)
theorem qC (l:List ab) (of:List Int) (os:List ao) (n:Nat):(fI l of os n).length=n:=by unfold fI; simp
theorem tG {l:List ab} {of:List Int} {os:List ao} {n r:Nat} (h:r < n):gi (fI l of os n) (r:Int)=rowOf l of (gi os (r:Int)) (r:Int):=by
 unfold fI
 rw [cq _ _ (by simp; exact h)]; simp
def mW (h:ak) (j:Nat):List aa:=(bn (gi h.ae (j:Int)) (dn (bw h) (ofH h) (j:Int))).1
theorem xv (h:ak) (j:Nat):rowOf (bw h) (ofH h) (gi h.ae (j:Int)) (j:Int)=(mW h j).map (gk (aW (ofH h) (j:Int))):=rfl
theorem ob {h:ak} {j:Nat} (hok:jc (bw h) (ofH h) h.ae j):de (gi h.ae (j:Int)) (dn (bw h) (ofH h) (j:Int)) (mW h j)=true:=(wg hok).2
theorem mM {h:ak} {j:Nat} (hok:jc (bw h) (ofH h) h.ae j):(opers (mW h j)).Nodup∧∀ p∈mW h j,0≤p.Oper∧p.Oper < (dn (bw h) (ofH h) (j:Int)).length:=⟨(mC hok).1,fun p hp=>(mC hok).2 _ (lr hp)⟩
theorem F7 {h:ak} {j o:Nat} (ho:o < (mW h j).length):gi (rowOf (bw h) (ofH h) (gi h.ae (j:Int)) (j:Int)) (o:Int)=gk (aW (ofH h) (j:Int)) (gi (mW h j) (o:Int)):=by
 rw [xv]; exact jA _ (by omega) (by omega)
theorem vf {h:ak} {j o:Nat} (hok:jc (bw h) (ofH h) h.ae j) (ho:o < (mW h j).length):gi (bw h) (gi (rowOf (bw h) (ofH h) (gi h.ae (j:Int)) (j:Int)) (o:Int)).Oper=gi (dn (bw h) (ofH h) (j:Int)) (gi (mW h j) (o:Int)).Oper:=by
 rw [F7 ho]
 have kF:=(mM hok).2 _ (eJ (l:=mW h j) (i:=(o:Int)) (by omega) (by omega))
 obtain ⟨n,hn⟩:=Int.eq_ofNat_of_zero_le kF.1
 show gi (bw h) (gi (aW (ofH h) (j:Int)) (gi (mW h j) (o:Int)).Oper)=_
 rw [hn]
 exact ((qW h (j:Int)).2.1 n (by omega)).1.symm
theorem D0 {h:ak} (hc:(aD h).2=0) (hok:∀ j,j < h.ae.length→jc (bw h) (ofH h) h.ae j):tH (bw h) (fI (bw h) (ofH h) h.ae h.ae.length):=by
 have H:=mP (iG hc).1
 have hH:opsOf (bo h)=bw h:=rfl
 rw [hH] at H
 refine ⟨fun p hp=>?_,fun r o u hr Ss hu=>?_⟩
 ·obtain ⟨j,hj,GR⟩:=ov.1 hp
  have:=nK (o3 (ff h) (hok j hj) GR)
  have hl:=ff h
  obtain ⟨n,hn⟩:=Int.eq_ofNat_of_zero_le this.1
  rw [hn]
  exact (H.one n (by omega)).1
 ·rw [qC] at hr
  rw [tG hr] at hu ⊢
  have Du:(rowOf (bw h) (ofH h) (gi h.ae (r:Int)) (r:Int)).length=(mW h r).length:=by rw [xv,List.length_map]
  rw [Du] at hu
  rw [vf (hok r hr) (by omega),vf (hok r hr) (by omega),← Bool.not_eq_true]
  intro ha
  have kF:=(mM (hok r hr)).2 _ (eJ (l:=mW h r) (i:=(u:Int)) (by omega) (by omega))
  obtain ⟨n,hn⟩:=Int.eq_ofNat_of_zero_le kF.1
  rw [hn] at ha
  have:=zV (ob (hok r hr)) (y:=o) (k:=n) (by omega) (by omega) ha
  rw [nI] at this
  obtain ⟨j,j1,j2,j3⟩:=ou.1 this
  rw [jn] at j2
  have:=q5 (mM (hok r hr)).1 (i:=j) (j:=u) (by rw [jn]; exact j2) (by rw [jn]; exact hu) (by rw [j3,oo hu,hn])
  omega
theorem qB {h:ak}:∀ n:Nat,(∀ j,j < n→jc (bw h) (ofH h) h.ae j)→(opers (fI (bw h) (ofH h) h.ae n).flatten).Nodup
 | 0,_=>by simp [fI,opers]
 | n+1,hok=>by
  have ih:=qB (h:=h) n (fun j hj=>hok j (by omega))
  have h3:[rowOf (bw h) (ofH h) (gi h.ae (n:Int)) (n:Int)].flatten=rowOf (bw h) (ofH h) (gi h.ae (n:Int)) (n:Int):=by simp
  rw [mq,List.flatten_append,h3]
  have ho:∀ a b:List aa,opers (a++b)=opers a++opers b:=fun a b=>by unfold opers; rw [List.map_append]
  rw [ho,List.nodup_append]
  refine ⟨ih,?_,fun a ha b hb e=>?_⟩
  ·rw [xv,Av]
   have hs:=mM (hok n (by omega))
   unfold List.Nodup
   rw [List.pairwise_map]
   refine List.Pairwise.imp_of_mem (fun {x y} hx hy hne e=>hne ?_) hs.1
   obtain ⟨p,hp,rfl⟩:=xQ.1 hx
   obtain ⟨q,hq,rfl⟩:=xQ.1 hy
   exact uc (qW h (n:Int)) (hs.2 p hp).1 (hs.2 p hp).2 (hs.2 q hq).1 (hs.2 q hq).2 e
  ·subst e
   obtain ⟨p,hp,rfl⟩:=xQ.1 ha
   obtain ⟨q,hq,e⟩:=xQ.1 hb
   obtain ⟨j,hj,GR⟩:=ov.1 hp
   have h1:=nK (o3 (ff h) (hok j (by omega)) GR)
   have h2:=nK (o3 (ff h) (hok n (by omega)) hq)
   rw [e] at h2
   omega
theorem yF {h:ak} (h20:(bw h).length≤20) (hok:∀ j,j < h.ae.length→jc (bw h) (ofH h) h.ae j):(fI (bw h) (ofH h) h.ae h.ae.length).flatten.length≤20:=by
 have h1:=qB h.ae.length hok
 have:=mA (b:=(List.range (bw h).length).map fun i:Nat=>(i:Int)) h1 (fun x hx=>by
  obtain ⟨p,hp,rfl⟩:=xQ.1 hx
  obtain ⟨j,hj,GR⟩:=ov.1 hp
  have h1:=nK (o3 (ff h) (hok j hj) GR)
  have hl:=ff h
  exact List.mem_map.2 ⟨p.Oper.toNat,List.mem_range.2 (by omega),by omega⟩)
 rw [jn,List.length_map,List.length_range] at this
 omega
theorem zk {h:ak} (hc:(aD h).2=0) (h20:(bw h).length≤20) (hok:∀ j,j < h.ae.length→jc (bw h) (ofH h) h.ae j):(ki (bw h) (fI (bw h) (ofH h) h.ae h.ae.length)).2=true :=
 xZ (D0 hc hok) (by have:=yF h20 hok; omega)
end Go.Proofs.YteahldlmkheleaaGreat
