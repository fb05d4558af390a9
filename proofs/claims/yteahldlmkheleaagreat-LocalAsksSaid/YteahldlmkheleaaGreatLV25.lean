/- Lemmas. -/
import Derived.Test.YteahldlmkheleaaGreatLV24
set_option linter.all false
namespace Go.Proofs.YteahldlmkheleaaGreat
open Go Go.Sv Go.Pu
def base (rows:List (List aa)) (r:Nat):Nat:=(rows.take r).flatten.length
theorem sN {rows:List (List aa)} {r:Nat} (h:r < rows.length):base rows (r+1)=base rows r+(gi rows (r:Int)).length:=by
 unfold base; rw [lx h,List.length_append]
theorem vS (rows:List (List aa)):base rows rows.length=rows.flatten.length:=by unfold base; rw [List.take_length]
theorem pW {rows:List (List aa)} {r:Nat}:∀ m:Nat,r < m→m≤rows.length→base rows r+(gi rows (r:Int)).length≤base rows m
 | 0,h,_=>by omega
 | m+1,h,hm=>by
  rw [sN (by omega)]
  by_cases e:r=m
  ·subst e; exact Nat.le_refl _
  ·have:=pW m (by omega:r < m) (by omega:m≤rows.length)
   omega
theorem oq {rows:List (List aa)} {r o:Nat} (h:r < rows.length) (ho:o < (gi rows (r:Int)).length):base rows r+o < rows.flatten.length:=by
 have:=pW (rows:=rows) (r:=r) rows.length h (Nat.le_refl _)
 rw [vS] at this
 omega
theorem Au {rows:List (List aa)} {r o s u:Nat} (hr:r < rows.length) (ho:o < (gi rows (r:Int)).length) (hs:s < rows.length) (hu:u < (gi rows (s:Int)).length) (e:base rows r+o=base rows s+u):r=s∧o=u:=by
 rcases Nat.lt_trichotomy r s with h | h | h
 ·have:=pW (rows:=rows) s h (by omega); omega
 ·subst h; omega
 ·have:=pW (rows:=rows) r h (by omega); omega
theorem ux {rows:List (List aa)}:∀ (t a:Nat),t≤rows.length→a < base rows t→∃ r o:Nat,r < t∧o < (gi rows (r:Int)).length∧a=base rows r+o
 | 0,a,_,ha=>by simp [base] at ha
 | t+1,a,ht,ha=>by
  rw [sN (by omega)] at ha
  by_cases e:a < base rows t
  ·obtain ⟨r,o,h1,h2,h3⟩:=ux t a (by omega) e
   exact ⟨r,o,by omega,h2,h3⟩
  ·exact ⟨t,a - base rows t,by omega,by omega,by omega⟩
theorem rQ {rows:List (List aa)} {a:Nat} (ha:a < rows.flatten.length):∃ r o:Nat,r < rows.length∧o < (gi rows (r:Int)).length∧a=base rows r+o:=ux rows.length a (Nat.le_refl _) (by rw [vS]; exact ha)
theorem CV {rows:List (List aa)} {r o:Nat} (hr:r < rows.length) (ho:o < (gi rows (r:Int)).length):gi rows.flatten ((base rows r+o:Nat):Int)=gi (gi rows (r:Int)) (o:Int):=by
 have e:rows.flatten=((rows.take r).flatten++gi rows (r:Int))++(rows.drop (r+1)).flatten:=by
  rw [← lx hr,← List.flatten_append,List.take_append_drop]
 have hb:base rows r=(rows.take r).flatten.length:=rfl
 rw [cN _ _ (oq hr ho),cN _ _ ho]
 have h1:base rows r+o < (((rows.take r).flatten++gi rows (r:Int))++(rows.drop (r+1)).flatten).length:=by rw [← e]; exact oq hr ho
 have h2:rows.flatten[base rows r+o]'(oq hr ho)=(((rows.take r).flatten++gi rows (r:Int))++(rows.drop (r+1)).flatten)[base rows r+o]'h1:=by
  congr 1
 rw [h2,List.getElem_append_left (by rw [List.length_append]; omega),List.getElem_append_right (by omega)]
 congr 1
 omega
theorem tE {at_:Int} {n:Nat} {p:Int × Int}:p∈lg at_ n↔∃ o:Nat,o+1 < n∧p=(at_+o,at_+o+1):=by
 unfold lg
 rw [List.mem_map]
 constructor
 ·rintro ⟨o,ho,rfl⟩
  exact ⟨o,by have:=List.mem_range.1 ho; omega,rfl⟩
 ·rintro ⟨o,ho,rfl⟩
  exact ⟨o,List.mem_range.2 (by omega),rfl⟩
theorem mU {rows:List (List aa)} {p:Int × Int}:∀ t:Nat,t≤rows.length→(p∈eE (rows.take t) 0↔∃ r o:Nat,r < t∧o+1 < (gi rows (r:Int)).length∧p=(((base rows r+o:Nat):Int),((base rows r+o+1:Nat):Int)))
 | 0,_=>by simp [eE]
 | t+1,ht=>by
  have ih:=mU (rows:=rows) (p:=p) t (by omega)
  rw [eJ (by omega),jR,List.mem_append,ih,tE,Int.zero_add]
  have hb:base rows t=(rows.take t).flatten.length:=rfl
  constructor
  ·rintro (⟨r,o,h1,h2,h3⟩ | ⟨o,h1,h2⟩)
   ·exact ⟨r,o,by omega,h2,h3⟩
   ·exact ⟨t,o,by omega,h1,by rw [h2,hb]; push_cast; rfl⟩
  ·rintro ⟨r,o,h1,h2,h3⟩
   by_cases e:r=t
   ·subst e
    exact .inr ⟨o,h2,by rw [h3,hb]; push_cast; rfl⟩
   ·exact .inl ⟨r,o,by omega,h2,h3⟩
theorem rC {l:List ab} {all:List aa} {p:Int × Int}:p∈lb l all↔∃ i j:Nat,i < all.length∧j < all.length∧m9 l all i j=true∧p=((i:Int),(j:Int)):=by
 unfold lb ir
 rw [List.mem_flatMap]
 constructor
 ·rintro ⟨i,hi,hp⟩
  obtain ⟨j,hj,rfl⟩:=List.mem_map.1 hp
  rw [List.mem_filter,List.mem_range] at hj
  exact ⟨i,j,List.mem_range.1 hi,hj.1,hj.2,rfl⟩
 ·rintro ⟨i,j,hi,hj,ht,rfl⟩
  exact ⟨i,List.mem_range.2 hi,List.mem_map.2 ⟨j,by rw [List.mem_filter,List.mem_range]; exact ⟨hj,ht⟩,rfl⟩⟩
def ta (l:List ab) (rows:List (List aa)):Prop:=(∀ p∈rows.flatten,cQ (gi l p.Oper)=0)∧∀ r o u:Nat,r < rows.length→o < u→u < (gi rows (r:Int)).length→aZ (gi l (gi (gi rows (r:Int)) (u:Int)).Oper) (gi l (gi (gi rows (r:Int)) (o:Int)).Oper)=false
theorem nt (out:List Int) (b:Nat):∀ o:Nat,((b+o:Nat):Int)∉out→∃ u:Nat,u≤o∧((b+u:Nat):Int)∉out∧∀ v:Nat,v < u→((b+v:Nat):Int)∈out
 | 0,h=>⟨0,by omega,h,fun v hv=>by omega⟩
 | o+1,h=>by
  by_cases e:∃ v:Nat,v < o+1∧((b+v:Nat):Int)∉out
  ·obtain ⟨v,hv,hn⟩:=e
   obtain ⟨u,h1,h2,h3⟩:=nt out b v hn
   exact ⟨u,by omega,h2,h3⟩
  ·exact ⟨o+1,by omega,h,fun v hv=>Classical.byContradiction (fun hn=>e ⟨v,hv,hn⟩)⟩
 termination_by o=>o
 decreasing_by omega
def An (rows:List (List aa)) (out:List Int) (x:Nat):Prop:=(x:Int)∉out∧∃ r o:Nat,r < rows.length∧o < (gi rows (r:Int)).length∧x=base rows r+o∧∀ v:Nat,v < o→((base rows r+v:Nat):Int)∈out
def s4 (l:List ab) (all:List aa) (x:Nat):Nat:=(gi l (gi all (x:Int)).Oper).aE.toNat
theorem qN {rows:List (List aa)} {out:List Int} {f:Nat→Nat}:∀ m:Nat,(∃ x,An rows out x∧f x≤m)→∃ x,An rows out x∧∀ y,An rows out y→f x≤f y
 | 0,⟨x,h1,h2⟩=>⟨x,h1,fun y _=>by omega⟩
 | m+1,⟨x,h1,h2⟩=>by
  by_cases e:∃ y,An rows out y∧f y < f x
  ·obtain ⟨y,h3,h4⟩:=e
   exact qN m ⟨y,h3,by omega⟩
  ·exact ⟨x,h1,fun y hy=>Classical.byContradiction (fun hn=>e ⟨y,hy,by omega⟩)⟩
theorem Cz {n:Nat} {out:List Int} (hl:out.length < n):∃ a:Nat,a < n∧(a:Int)∉out:=by
 refine Classical.byContradiction (fun hn=>?_)
 have hd:((List.range n).map fun i:Nat=>(i:Int)).Nodup:=by
  unfold List.Nodup
  rw [List.pairwise_map]
  exact List.Pairwise.imp (fun h e=>h (by omega)) (List.nodup_range (n:=n))
 have:=nU (b:=out) hd (fun x hx=>by
  obtain ⟨i,hi,rfl⟩:=List.mem_map.1 hx
  exact Classical.byContradiction (fun hh=>hn ⟨i,List.mem_range.1 hi,hh⟩))
 rw [List.length_map,List.length_range] at this
 omega
theorem Ex {rows:List (List aa)} {out:List Int} {x:Nat} (h:An rows out x):x < rows.flatten.length:=by
 obtain ⟨_,r,o,h1,h2,h3,_⟩:=h
 rw [h3]; exact oq h1 h2
theorem zC {l:List ab} {rows:List (List aa)} (hr:ta l rows) {out:List Int} (hl:out.length < rows.flatten.length):jZ (rows.flatten.length:Nat) (cS l rows).2 out≠none:=by
 intro hno
 have Qv:∀ x:Nat,x < rows.flatten.length→c6 x (rows.flatten.length:Nat) out (cS l rows).2=true:=fun x hx=>by
  unfold jZ at hno
  rw [List.find?_eq_none] at hno
  have:=hno x (List.mem_range.2 (by omega))
  simpa using this
 obtain ⟨a,ha,PU⟩:=Cz hl
 obtain ⟨r,o,h1,h2,rfl⟩:=rQ ha
 obtain ⟨u,h3,h4,h5⟩:=nt out (base rows r) o PU
 obtain ⟨x,hx,Ml⟩:=qN (rows:=rows) (out:=out) (f:=s4 l rows.flatten) (s4 l rows.flatten (base rows r+u)) ⟨_,⟨h4,r,u,h1,by omega,rfl,h5⟩,Nat.le_refl _⟩
 have Pw:=Ex hx
 have hw:=Qv x Pw
 obtain ⟨Pv,r0,o0,r1,r2,rfl,r3⟩:=hx
 unfold c6 at hw
 rw [decide_eq_false Pv,Bool.false_or] at hw
 obtain ⟨p,hp,hq⟩:=List.any_eq_true.1 hw
 unfold cj at hq
 rw [Bool.and_eq_true,Bool.and_eq_true] at hq
 obtain ⟨⟨_,N4⟩,N3⟩:=hq
 have GV:p.2=((base rows r0+o0:Nat):Int):=by simpa using N4
 have Ku:p.1∉out:=by simpa using N3
 clear N4 N3
 have hp:p∈eE rows 0++lb l rows.flatten:=hp
 rcases List.mem_append.1 hp with hp | hp
 ·have:=mU (rows:=rows) (p:=p) rows.length (Nat.le_refl _)
  rw [List.take_length] at this
  obtain ⟨s,v,s1,s2,rfl⟩:=this.1 hp
  dsimp only at GV Ku
  obtain ⟨e1,e2⟩:=Au s1 s2 r1 r2 (by omega)
  subst e1
  exact Ku (r3 v (by omega))
 ·obtain ⟨i,j,i1,j1,ht,rfl⟩:=rC.1 hp
  dsimp only at GV Ku
  have hj:j=base rows r0+o0:=by omega
  subst hj
  unfold m9 aZ at ht
  rw [Bool.and_eq_true,decide_eq_true_eq,decide_eq_true_eq] at ht
  obtain ⟨s,v,s1,s2,rfl⟩:=rQ i1
  obtain ⟨w,w1,w2,w3⟩:=nt out (base rows s) v Ku
  have hc:An rows out (base rows s+w):=⟨w2,s,w,s1,by omega,rfl,w3⟩
  have hm:=Ml _ hc
  unfold s4 at hm
  have MJ:=hr.1 (gi rows.flatten ((base rows s+w:Nat):Int)) (e7 (by omega) (by have:=oq s1 (by omega:w < _); omega))
  have MI:=hr.1 (gi rows.flatten ((base rows r0+o0:Nat):Int)) (e7 (by omega) (by omega))
  have a1:=eU MJ
  have a2:=eU MI
  by_cases e:w=v
  ·subst e; omega
  ·have Mb:=hr.2 s w v s1 (by omega) s2
   rw [← CV s1 s2,← CV s1 (by omega:w < _)] at Mb
   unfold aZ at Mb
   rw [Bool.and_eq_false_iff,decide_eq_false_iff_not,decide_eq_false_iff_not] at Mb
   omega
theorem qc {l:List ab} {rows:List (List aa)} (hr:ta l rows):∀ (k:Nat) (out:List Int),out.length+k=rows.flatten.length→(hK (rows.flatten.length:Nat) (cS l rows).2 k out).2=true
 | 0,out,_=>rfl
 | k+1,out,h=>by
  rw [hK]
  cases e:jZ (rows.flatten.length:Nat) (cS l rows).2 out with
  | none=>exact absurd e (zC hr (by omega))
  | some x=>exact qc hr k _ (by rw [List.length_append,List.length_singleton]; omega)
theorem xk {l:List ab} {rows:List (List aa)} (hr:ta l rows) (h64:rows.flatten.length≤64):(ka l rows).2=true:=by
 unfold ka dc
 rw [if_neg (by omega)]
 exact qc hr _ [] (by simp)
theorem wE (l:List ab) (of:List Int) (os:List ae) (n:Nat):(fy l of os n).length=n:=by unfold fy; simp
theorem DT {l:List ab} {of:List Int} {os:List ae} {n r:Nat} (h:r < n):gi (fy l of os n) (r:Int)=rowOf l of (gi os (r:Int)) (r:Int):=by
 unfold fy
 rw [cN _ _ (by simp; exact h)]; simp
def pw (h:ak) (j:Nat):List aa:=(bk (gi h.ah (j:Int)) (dm (bB h) (ofH h) (j:Int))).1
theorem wF (h:ak) (j:Nat):rowOf (bB h) (ofH h) (gi h.ah (j:Int)) (j:Int)=(pw h j).map (kG (bo (ofH h) (j:Int))):=rfl
theorem uz {h:ak} {j:Nat} (hok:ic (bB h) (ofH h) h.ah j):c9 (gi h.ah (j:Int)) (dm (bB h) (ofH h) (j:Int)) (pw h j)=true:=(vx hok).2
theorem pJ {h:ak} {j:Nat} (hok:ic (bB h) (ofH h) h.ah j):(opers (pw h j)).Nodup∧∀ p∈pw h j,0≤p.Oper∧p.Oper < (dm (bB h) (ofH h) (j:Int)).length:=⟨(mu hok).1,fun p hp=>(mu hok).2 _ (lq hp)⟩
theorem Ge {h:ak} {j o:Nat} (ho:o < (pw h j).length):gi (rowOf (bB h) (ofH h) (gi h.ah (j:Int)) (j:Int)) (o:Int)=kG (bo (ofH h) (j:Int)) (gi (pw h j) (o:Int)):=by
 rw [wF]; exact kW _ (by omega) (by omega)
theorem uH {h:ak} {j o:Nat} (hok:ic (bB h) (ofH h) h.ah j) (ho:o < (pw h j).length):gi (bB h) (gi (rowOf (bB h) (ofH h) (gi h.ah (j:Int)) (j:Int)) (o:Int)).Oper=gi (dm (bB h) (ofH h) (j:Int)) (gi (pw h j) (o:Int)).Oper:=by
 rw [Ge ho]
 have mt:=(pJ hok).2 _ (e7 (l:=pw h j) (i:=(o:Int)) (by omega) (by omega))
 obtain ⟨n,hn⟩:=Int.eq_ofNat_of_zero_le mt.1
 show gi (bB h) (gi (bo (ofH h) (j:Int)) (gi (pw h j) (o:Int)).Oper)=_
 rw [hn]
 exact ((BH h (j:Int)).2.1 n (by omega)).1.symm
theorem DS {h:ak} (hc:(aB h).2=0) (hok:∀ j,j < h.ah.length→ic (bB h) (ofH h) h.ah j):ta (bB h) (fy (bB h) (ofH h) h.ah h.ah.length):=by
 have H:=nQ (iZ hc).1
 have hH:opsOf (bl h)=bB h:=rfl
 rw [hH] at H
 refine ⟨fun p hp=>?_,fun r o u hr Sg hu=>?_⟩
 ·obtain ⟨j,hj,GX⟩:=nV.1 hp
  have:=oJ (qg (gu h) (hok j hj) GX)
  have hl:=gu h
  obtain ⟨n,hn⟩:=Int.eq_ofNat_of_zero_le this.1
  rw [hn]
  exact (H.one n (by omega)).1
 ·rw [wE] at hr
  rw [DT hr] at hu ⊢
  have Fe:(rowOf (bB h) (ofH h) (gi h.ah (r:Int)) (r:Int)).length=(pw h r).length:=by rw [wF,List.length_map]
  rw [Fe] at hu
  rw [uH (hok r hr) (by omega),uH (hok r hr) (by omega),← Bool.not_eq_true]
  intro ha
  have mt:=(pJ (hok r hr)).2 _ (e7 (l:=pw h r) (i:=(u:Int)) (by omega) (by omega))
  obtain ⟨n,hn⟩:=Int.eq_ofNat_of_zero_le mt.1
  rw [hn] at ha
  have:=zh (uz (hok r hr)) (y:=o) (k:=n) (by omega) (by omega) ha
  rw [qy] at this
  obtain ⟨j,j1,j2,j3⟩:=qJ.1 this
  rw [jK] at j2
  have:=BK (pJ (hok r hr)).1 (i:=j) (j:=u) (by rw [jK]; exact j2) (by rw [jK]; exact hu) (by rw [j3,qz hu,hn])
  omega
theorem qf {h:ak}:∀ n:Nat,(∀ j,j < n→ic (bB h) (ofH h) h.ah j)→(opers (fy (bB h) (ofH h) h.ah n).flatten).Nodup
 | 0,_=>by simp [fy,opers]
 | n+1,hok=>by
  have ih:=qf (h:=h) n (fun j hj=>hok j (by omega))
  have h3:[rowOf (bB h) (ofH h) (gi h.ah (n:Int)) (n:Int)].flatten=rowOf (bB h) (ofH h) (gi h.ah (n:Int)) (n:Int):=by simp
  rw [mj,List.flatten_append,h3]
  have ho:∀ a b:List aa,opers (a++b)=opers a++opers b:=fun a b=>by unfold opers; rw [List.map_append]
  rw [ho,List.nodup_append]
  refine ⟨ih,?_,fun a ha b hb e=>?_⟩
  ·rw [wF,zS]
   have hs:=pJ (hok n (by omega))
   unfold List.Nodup
   rw [List.pairwise_map]
   refine List.Pairwise.imp_of_mem (fun {x y} hx hy hne e=>hne ?_) hs.1
   obtain ⟨p,hp,rfl⟩:=BU.1 hx
   obtain ⟨q,hq,rfl⟩:=BU.1 hy
   exact D1 (BH h (n:Int)) (hs.2 p hp).1 (hs.2 p hp).2 (hs.2 q hq).1 (hs.2 q hq).2 e
  ·subst e
   obtain ⟨p,hp,rfl⟩:=BU.1 ha
   obtain ⟨q,hq,e⟩:=BU.1 hb
   obtain ⟨j,hj,GX⟩:=nV.1 hp
   have h1:=oJ (qg (gu h) (hok j (by omega)) GX)
   have h2:=oJ (qg (gu h) (hok n (by omega)) hq)
   rw [e] at h2
   omega
theorem DU {h:ak} (h20:(bB h).length≤20) (hok:∀ j,j < h.ah.length→ic (bB h) (ofH h) h.ah j):(fy (bB h) (ofH h) h.ah h.ah.length).flatten.length≤20:=by
 have h1:=qf h.ah.length hok
 have:=nU (b:=(List.range (bB h).length).map fun i:Nat=>(i:Int)) h1 (fun x hx=>by
  obtain ⟨p,hp,rfl⟩:=BU.1 hx
  obtain ⟨j,hj,GX⟩:=nV.1 hp
  have h1:=oJ (qg (gu h) (hok j hj) GX)
  have hl:=gu h
  exact List.mem_map.2 ⟨p.Oper.toNat,List.mem_range.2 (by omega),by omega⟩)
 rw [jK,List.length_map,List.length_range] at this
 omega
theorem Ee {h:ak} (hc:(aB h).2=0) (h20:(bB h).length≤20) (hok:∀ j,j < h.ah.length→ic (bB h) (ofH h) h.ah j):(ka (bB h) (fy (bB h) (ofH h) h.ah h.ah.length)).2=true :=
 xk (DS hc hok) (by have:=DU h20 hok; omega)
end Go.Proofs.YteahldlmkheleaaGreat
