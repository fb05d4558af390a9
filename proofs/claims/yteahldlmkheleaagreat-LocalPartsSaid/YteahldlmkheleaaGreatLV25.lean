/- Time and the parts' orders have no circle: sorting ends well. -/
import Derived.Test.YteahldlmkheleaaGreatLV24
set_option linter.all false
namespace Go.Proofs.YteahldlmkheleaaGreat
open Go Go.Sv Go.Pu
def base (rows:List (List aa)) (r:Nat):Nat:=(rows.take r).flatten.length
theorem te {rows:List (List aa)} {r:Nat} (h:r < rows.length):base rows (r+1)=base rows r+(gi rows (r:Int)).length:=by
 unfold base; rw [lB h,List.length_append]
theorem wj (rows:List (List aa)):base rows rows.length=rows.flatten.length:=by unfold base; rw [List.take_length]
theorem qi {rows:List (List aa)} {r:Nat}:∀ m:Nat,r < m→m≤rows.length→base rows r+(gi rows (r:Int)).length≤base rows m
 | 0,h,_=>by omega
 | m+1,h,hm=>by
  rw [te (by omega)]
  by_cases e:r=m
  ·subst e; exact Nat.le_refl _
  ·have:=qi m (by omega:r < m) (by omega:m≤rows.length)
   omega
theorem jW {rows:List (List aa)} {r o:Nat} (h:r < rows.length) (ho:o < (gi rows (r:Int)).length):base rows r+o < rows.flatten.length:=by
 have:=qi (rows:=rows) (r:=r) rows.length h (Nat.le_refl _)
 rw [wj] at this
 omega
theorem td {rows:List (List aa)} {r o s u:Nat} (hr:r < rows.length) (ho:o < (gi rows (r:Int)).length) (hs:s < rows.length) (hu:u < (gi rows (s:Int)).length) (e:base rows r+o=base rows s+u):r=s∧o=u:=by
 rcases Nat.lt_trichotomy r s with h | h | h
 ·have:=qi (rows:=rows) s h (by omega); omega
 ·subst h; omega
 ·have:=qi (rows:=rows) r h (by omega); omega
theorem uR {rows:List (List aa)}:∀ (t a:Nat),t≤rows.length→a < base rows t→∃ r o:Nat,r < t∧o < (gi rows (r:Int)).length∧a=base rows r+o
 | 0,a,_,ha=>by simp [base] at ha
 | t+1,a,ht,ha=>by
  rw [te (by omega)] at ha
  by_cases e:a < base rows t
  ·obtain ⟨r,o,h1,h2,h3⟩:=uR t a (by omega) e
   exact ⟨r,o,by omega,h2,h3⟩
  ·exact ⟨t,a - base rows t,by omega,by omega,by omega⟩
theorem mI {rows:List (List aa)} {a:Nat} (ha:a < rows.flatten.length):∃ r o:Nat,r < rows.length∧o < (gi rows (r:Int)).length∧a=base rows r+o:=uR rows.length a (Nat.le_refl _) (by rw [wj]; exact ha)
theorem rH {rows:List (List aa)} {r o:Nat} (hr:r < rows.length) (ho:o < (gi rows (r:Int)).length):gi rows.flatten ((base rows r+o:Nat):Int)=gi (gi rows (r:Int)) (o:Int):=by
 have e:rows.flatten=((rows.take r).flatten++gi rows (r:Int))++(rows.drop (r+1)).flatten:=by
  rw [← lB hr,← List.flatten_append,List.take_append_drop]
 have hb:base rows r=(rows.take r).flatten.length:=rfl
 rw [bZ _ _ (jW hr ho),bZ _ _ ho]
 have h1:base rows r+o < (((rows.take r).flatten++gi rows (r:Int))++(rows.drop (r+1)).flatten).length:=by rw [← e]; exact jW hr ho
 have h2:rows.flatten[base rows r+o]'(jW hr ho)=(((rows.take r).flatten++gi rows (r:Int))++(rows.drop (r+1)).flatten)[base rows r+o]'h1:=by
  congr 1
 rw [h2,List.getElem_append_left (by rw [List.length_append]; omega),List.getElem_append_right (by omega)]
 congr 1
 omega
theorem tV {at_:Int} {n:Nat} {p:Int × Int}:p∈lp at_ n↔∃ o:Nat,o+1 < n∧p=(at_+o,at_+o+1):=by
 unfold lp
 rw [List.mem_map]
 constructor
 ·rintro ⟨o,ho,rfl⟩
  exact ⟨o,by have:=List.mem_range.1 ho; omega,rfl⟩
 ·rintro ⟨o,ho,rfl⟩
  exact ⟨o,List.mem_range.2 (by omega),rfl⟩
theorem lb {rows:List (List aa)} {p:Int × Int}:∀ t:Nat,t≤rows.length→(p∈eQ (rows.take t) 0↔∃ r o:Nat,r < t∧o+1 < (gi rows (r:Int)).length∧p=(((base rows r+o:Nat):Int),((base rows r+o+1:Nat):Int)))
 | 0,_=>by simp [eQ]
 | t+1,ht=>by
  have ih:=lb (rows:=rows) (p:=p) t (by omega)
  rw [fy (by omega),j9,List.mem_append,ih,tV,Int.zero_add]
  have hb:base rows t=(rows.take t).flatten.length:=rfl
  constructor
  ·rintro (⟨r,o,h1,h2,h3⟩ | ⟨o,h1,h2⟩)
   ·exact ⟨r,o,by omega,h2,h3⟩
   ·exact ⟨t,o,by omega,h1,by rw [h2,hb]; push_cast; rfl⟩
  ·rintro ⟨r,o,h1,h2,h3⟩
   by_cases e:r=t
   ·subst e
    exact .inr ⟨o,h2,by rw [h3,hb]; push_cast; rfl⟩
   ·exact .inl ⟨r,o,by omega,h2,h3⟩
theorem nj {l:List ab} {all:List aa} {p:Int × Int}:p∈ll l all↔∃ i j:Nat,i < all.length∧j < all.length∧mq l all i j=true∧p=((i:Int),(j:Int)):=by
 unfold ll iO
 rw [List.mem_flatMap]
 constructor
 ·rintro ⟨i,hi,hp⟩
  obtain ⟨j,hj,rfl⟩:=List.mem_map.1 hp
  rw [List.mem_filter,List.mem_range] at hj
  exact ⟨i,j,List.mem_range.1 hi,hj.1,hj.2,rfl⟩
 ·rintro ⟨i,j,hi,hj,ht,rfl⟩
  exact ⟨i,List.mem_range.2 hi,List.mem_map.2 ⟨j,by rw [List.mem_filter,List.mem_range]; exact ⟨hj,ht⟩,rfl⟩⟩
def tz (l:List ab) (rows:List (List aa)):Prop:=(∀ p∈rows.flatten,dq (gi l p.Oper)=0)∧∀ r o u:Nat,r < rows.length→o < u→u < (gi rows (r:Int)).length→bl (gi l (gi (gi rows (r:Int)) (u:Int)).Oper) (gi l (gi (gi rows (r:Int)) (o:Int)).Oper)=false
theorem nJ (out:List Int) (b:Nat):∀ o:Nat,((b+o:Nat):Int)∉out→∃ u:Nat,u≤o∧((b+u:Nat):Int)∉out∧∀ v:Nat,v < u→((b+v:Nat):Int)∈out
 | 0,h=>⟨0,by omega,h,fun v hv=>by omega⟩
 | o+1,h=>by
  by_cases e:∃ v:Nat,v < o+1∧((b+v:Nat):Int)∉out
  ·obtain ⟨v,hv,hn⟩:=e
   obtain ⟨u,h1,h2,h3⟩:=nJ out b v hn
   exact ⟨u,by omega,h2,h3⟩
  ·exact ⟨o+1,by omega,h,fun v hv=>Classical.byContradiction (fun hn=>e ⟨v,hv,hn⟩)⟩
 termination_by o=>o
 decreasing_by omega
def AF (rows:List (List aa)) (out:List Int) (x:Nat):Prop:=(x:Int)∉out∧∃ r o:Nat,r < rows.length∧o < (gi rows (r:Int)).length∧x=base rows r+o∧∀ v:Nat,v < o→((base rows r+v:Nat):Int)∈out
def tv (l:List ab) (all:List aa) (x:Nat):Nat:=(gi l (gi all (x:Int)).Oper).aI.toNat
theorem rh {rows:List (List aa)} {out:List Int} {f:Nat→Nat}:∀ m:Nat,(∃ x,AF rows out x∧f x≤m)→∃ x,AF rows out x∧∀ y,AF rows out y→f x≤f y
 | 0,⟨x,h1,h2⟩=>⟨x,h1,fun y _=>by omega⟩
 | m+1,⟨x,h1,h2⟩=>by
  by_cases e:∃ y,AF rows out y∧f y < f x
  ·obtain ⟨y,h3,h4⟩:=e
   exact rh m ⟨y,h3,by omega⟩
  ·exact ⟨x,h1,fun y hy=>Classical.byContradiction (fun hn=>e ⟨y,hy,by omega⟩)⟩
theorem CE {n:Nat} {out:List Int} (hl:out.length < n):∃ a:Nat,a < n∧(a:Int)∉out:=by
 refine Classical.byContradiction (fun hn=>?_)
 have hd:((List.range n).map fun i:Nat=>(i:Int)).Nodup:=by
  unfold List.Nodup
  rw [List.pairwise_map]
  exact List.Pairwise.imp (fun h e=>h (by omega)) (List.nodup_range (n:=n))
 have:=mA (b:=out) hd (fun x hx=>by
  obtain ⟨i,hi,rfl⟩:=List.mem_map.1 hx
  exact Classical.byContradiction (fun hh=>hn ⟨i,List.mem_range.1 hi,hh⟩))
 rw [List.length_map,List.length_range] at this
 omega
theorem ED {rows:List (List aa)} {out:List Int} {x:Nat} (h:AF rows out x):x < rows.flatten.length:=by
 obtain ⟨_,r,o,h1,h2,h3,_⟩:=h
 rw [h3]; exact jW h1 h2
theorem zS {l:List ab} {rows:List (List aa)} (hr:tz l rows) {out:List Int} (hl:out.length < rows.flatten.length):ke (rows.flatten.length:Nat) (cj l rows).2 out≠none:=by
 intro hno
 have Q5:∀ x:Nat,x < rows.flatten.length→dg x (rows.flatten.length:Nat) out (cj l rows).2=true:=fun x hx=>by
  unfold ke at hno
  rw [List.find?_eq_none] at hno
  have:=hno x (List.mem_range.2 (by omega))
  simpa using this
 obtain ⟨a,ha,Qs⟩:=CE hl
 obtain ⟨r,o,h1,h2,rfl⟩:=mI ha
 obtain ⟨u,h3,h4,h5⟩:=nJ out (base rows r) o Qs
 obtain ⟨x,hx,MC⟩:=rh (rows:=rows) (out:=out) (f:=tv l rows.flatten) (tv l rows.flatten (base rows r+u)) ⟨_,⟨h4,r,u,h1,by omega,rfl,h5⟩,Nat.le_refl _⟩
 have PX:=ED hx
 have hw:=Q5 x PX
 obtain ⟨PW,r0,o0,r1,r2,rfl,r3⟩:=hx
 unfold dg at hw
 rw [decide_eq_false PW,Bool.false_or] at hw
 obtain ⟨p,hp,hq⟩:=List.any_eq_true.1 hw
 unfold cl at hq
 rw [Bool.and_eq_true,Bool.and_eq_true] at hq
 obtain ⟨⟨_,Ox⟩,Ow⟩:=hq
 have Ao:p.2=((base rows r0+o0:Nat):Int):=by simpa using Ox
 have KF:p.1∉out:=by simpa using Ow
 clear Ox Ow
 have hp:p∈eQ rows 0++ll l rows.flatten:=hp
 rcases List.mem_append.1 hp with hp | hp
 ·have:=lb (rows:=rows) (p:=p) rows.length (Nat.le_refl _)
  rw [List.take_length] at this
  obtain ⟨s,v,s1,s2,rfl⟩:=this.1 hp
  dsimp only at Ao KF
  obtain ⟨e1,e2⟩:=td s1 s2 r1 r2 (by omega)
  subst e1
  exact KF (r3 v (by omega))
 ·obtain ⟨i,j,i1,j1,ht,rfl⟩:=nj.1 hp
  dsimp only at Ao KF
  have hj:j=base rows r0+o0:=by omega
  subst hj
  unfold mq bl at ht
  rw [Bool.and_eq_true,decide_eq_true_eq,decide_eq_true_eq] at ht
  obtain ⟨s,v,s1,s2,rfl⟩:=mI i1
  obtain ⟨w,w1,w2,w3⟩:=nJ out (base rows s) v KF
  have hc:AF rows out (base rows s+w):=⟨w2,s,w,s1,by omega,rfl,w3⟩
  have hm:=MC _ hc
  unfold tv at hm
  have M4:=hr.1 (gi rows.flatten ((base rows s+w:Nat):Int)) (dB (by omega) (by have:=jW s1 (by omega:w < _); omega))
  have M3:=hr.1 (gi rows.flatten ((base rows r0+o0:Nat):Int)) (dB (by omega) (by omega))
  have a1:=fK M4
  have a2:=fK M3
  by_cases e:w=v
  ·subst e; omega
  ·have Mq:=hr.2 s w v s1 (by omega) s2
   rw [← rH s1 s2,← rH s1 (by omega:w < _)] at Mq
   unfold bl at Mq
   rw [Bool.and_eq_false_iff,decide_eq_false_iff_not,decide_eq_false_iff_not] at Mq
   omega
theorem qz {l:List ab} {rows:List (List aa)} (hr:tz l rows):∀ (k:Nat) (out:List Int),out.length+k=rows.flatten.length→(iu (rows.flatten.length:Nat) (cj l rows).2 k out).2=true
 | 0,out,_=>rfl
 | k+1,out,h=>by
  rw [iu]
  cases e:ke (rows.flatten.length:Nat) (cj l rows).2 out with
  | none=>exact absurd e (zS hr (by omega))
  | some x=>exact qz hr k _ (by rw [List.length_append,List.length_singleton]; omega)
theorem xE {l:List ab} {rows:List (List aa)} (hr:tz l rows) (h64:rows.flatten.length≤64):(km l rows).2=true:=by
 unfold km dp
 rw [if_neg (by omega)]
 exact qz hr _ [] (by simp)
theorem qE (l:List ab) (of:List Int) (os:List aj) (n:Nat):(fC l of os n).length=n:=by unfold fC; simp
theorem tx {l:List ab} {of:List Int} {os:List aj} {n r:Nat} (h:r < n):gi (fC l of os n) (r:Int)=rowOf l of (gi os (r:Int)) (r:Int):=by
 unfold fC
 rw [bZ _ _ (by simp; exact h)]; simp
def oR (h:al) (j:Nat):List aa:=(bn (gi h.ae (j:Int)) (dA (bz h) (ofH h) (j:Int))).1
theorem w9 (h:al) (j:Nat):rowOf (bz h) (ofH h) (gi h.ae (j:Int)) (j:Int)=(oR h j).map (gm (aS (ofH h) (j:Int))):=rfl
theorem qA {h:al} {j:Nat} (hok:iw (bz h) (ofH h) h.ae j):dt (gi h.ae (j:Int)) (dA (bz h) (ofH h) (j:Int)) (oR h j)=true:=(vR hok).2
theorem n4 {h:al} {j:Nat} (hok:iw (bz h) (ofH h) h.ae j):(opers (oR h j)).Nodup∧∀ p∈oR h j,0≤p.Oper∧p.Oper < (dA (bz h) (ofH h) (j:Int)).length:=⟨(mD hok).1,fun p hp=>(mD hok).2 _ (oo hp)⟩
theorem Gp {h:al} {j o:Nat} (ho:o < (oR h j).length):gi (rowOf (bz h) (ofH h) (gi h.ae (j:Int)) (j:Int)) (o:Int)=gm (aS (ofH h) (j:Int)) (gi (oR h j) (o:Int)):=by
 rw [w9]; exact ld _ (by omega) (by omega)
theorem uY {h:al} {j o:Nat} (hok:iw (bz h) (ofH h) h.ae j) (ho:o < (oR h j).length):gi (bz h) (gi (rowOf (bz h) (ofH h) (gi h.ae (j:Int)) (j:Int)) (o:Int)).Oper=gi (dA (bz h) (ofH h) (j:Int)) (gi (oR h j) (o:Int)).Oper:=by
 rw [Gp ho]
 have hin:=(n4 hok).2 _ (dB (l:=oR h j) (i:=(o:Int)) (by omega) (by omega))
 obtain ⟨n,hn⟩:=Int.eq_ofNat_of_zero_le hin.1
 show gi (bz h) (gi (aS (ofH h) (j:Int)) (gi (oR h j) (o:Int)).Oper)=_
 rw [hn]
 exact ((qX h (j:Int)).2.1 n (by omega)).1.symm
theorem D3 {h:al} (hc:(aE h).2=0) (hok:∀ j,j < h.ae.length→iw (bz h) (ofH h) h.ae j):tz (bz h) (fC (bz h) (ofH h) h.ae h.ae.length):=by
 have H:=qd (jJ hc).1
 have hH:opsOf (bT h)=bz h:=rfl
 rw [hH] at H
 refine ⟨fun p hp=>?_,fun r o u hr SZ hu=>?_⟩
 ·obtain ⟨j,hj,Ha⟩:=oh.1 hp
  have:=lL (oU (eR h) (hok j hj) Ha)
  have hl:=eR h
  obtain ⟨n,hn⟩:=Int.eq_ofNat_of_zero_le this.1
  rw [hn]
  exact (H.one n (by omega)).1
 ·rw [qE] at hr
  rw [tx hr] at hu ⊢
  have DA:(rowOf (bz h) (ofH h) (gi h.ae (r:Int)) (r:Int)).length=(oR h r).length:=by rw [w9,List.length_map]
  rw [DA] at hu
  rw [uY (hok r hr) (by omega),uY (hok r hr) (by omega),← Bool.not_eq_true]
  intro ha
  have hin:=(n4 (hok r hr)).2 _ (dB (l:=oR h r) (i:=(u:Int)) (by omega) (by omega))
  obtain ⟨n,hn⟩:=Int.eq_ofNat_of_zero_le hin.1
  rw [hn] at ha
  have:=zD (qA (hok r hr)) (y:=o) (k:=n) (by omega) (by omega) ha
  rw [nF] at this
  obtain ⟨j,j1,j2,j3⟩:=og.1 this
  rw [gD] at j2
  have:=q6 (n4 (hok r hr)).1 (i:=j) (j:=u) (by rw [gD]; exact j2) (by rw [gD]; exact hu) (by rw [j3,lr hu,hn])
  omega
theorem qD {h:al}:∀ n:Nat,(∀ j,j < n→iw (bz h) (ofH h) h.ae j)→(opers (fC (bz h) (ofH h) h.ae n).flatten).Nodup
 | 0,_=>by simp [fC,opers]
 | n+1,hok=>by
  have ih:=qD (h:=h) n (fun j hj=>hok j (by omega))
  have h3:[rowOf (bz h) (ofH h) (gi h.ae (n:Int)) (n:Int)].flatten=rowOf (bz h) (ofH h) (gi h.ae (n:Int)) (n:Int):=by simp
  rw [mu,List.flatten_append,h3]
  have ho:∀ a b:List aa,opers (a++b)=opers a++opers b:=fun a b=>by unfold opers; rw [List.map_append]
  rw [ho,List.nodup_append]
  refine ⟨ih,?_,fun a ha b hb e=>?_⟩
  ·rw [w9,sI]
   have hs:=n4 (hok n (by omega))
   unfold List.Nodup
   rw [List.pairwise_map]
   refine List.Pairwise.imp_of_mem (fun {x y} hx hy hne e=>hne ?_) hs.1
   obtain ⟨p,hp,rfl⟩:=oq.1 hx
   obtain ⟨q,hq,rfl⟩:=oq.1 hy
   exact tT (qX h (n:Int)) (hs.2 p hp).1 (hs.2 p hp).2 (hs.2 q hq).1 (hs.2 q hq).2 e
  ·subst e
   obtain ⟨p,hp,rfl⟩:=oq.1 ha
   obtain ⟨q,hq,e⟩:=oq.1 hb
   obtain ⟨j,hj,Ha⟩:=oh.1 hp
   have h1:=lL (oU (eR h) (hok j (by omega)) Ha)
   have h2:=lL (oU (eR h) (hok n (by omega)) hq)
   rw [e] at h2
   omega
theorem D4 {h:al} (h20:(bz h).length≤20) (hok:∀ j,j < h.ae.length→iw (bz h) (ofH h) h.ae j):(fC (bz h) (ofH h) h.ae h.ae.length).flatten.length≤20:=by
 have h1:=qD h.ae.length hok
 have:=mA (b:=(List.range (bz h).length).map fun i:Nat=>(i:Int)) h1 (fun x hx=>by
  obtain ⟨p,hp,rfl⟩:=oq.1 hx
  obtain ⟨j,hj,Ha⟩:=oh.1 hp
  have h1:=lL (oU (eR h) (hok j hj) Ha)
  have hl:=eR h
  exact List.mem_map.2 ⟨p.Oper.toNat,List.mem_range.2 (by omega),by omega⟩)
 rw [gD,List.length_map,List.length_range] at this
 omega
theorem yQ {h:al} (hc:(aE h).2=0) (h20:(bz h).length≤20) (hok:∀ j,j < h.ae.length→iw (bz h) (ofH h) h.ae j):(km (bz h) (fC (bz h) (ofH h) h.ae h.ae.length)).2=true :=
 xE (D3 hc hok) (by have:=D4 h20 hok; omega)
end Go.Proofs.YteahldlmkheleaaGreat
