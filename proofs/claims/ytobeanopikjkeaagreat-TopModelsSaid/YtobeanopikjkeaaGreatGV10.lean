/- Plain lemmas about the specification functions. Conditions: in each lemma. -/
import Derived.Test.YtobeanopikjkeaaGreatGV5
set_option linter.all false
namespace Go.Proofs.YtobeanopikjkeaaGreat
open Go Go.Sv Go.Pu
variable {o:ah} {l:List ae} {s:aa} {m:List Bool}
theorem qH {L:List Int} (hd:L.Nodup) {k:Nat} (hk:k < L.length):idx L (gi L (k:Int))=k:=by
 refine F5 (by omega) (by omega) rfl (fun j hj hj2 e=>?_)
 have P7:j.toNat < L.length:=by omega
 rw [show j=((j.toNat:Nat):Int) by omega,cA _ _ P7,cA _ _ hk] at e
 have:=(List.nodup_iff_pairwise_ne.1 hd)
 rw [List.pairwise_iff_getElem] at this
 exact this j.toNat k P7 hk (by omega) e
theorem vm {L:List Int} {x:Int} (h:x∈L):∃ k:Nat,k < L.length∧gi L (k:Int)=x:=by
 obtain ⟨k,hk,e⟩:=List.getElem_of_mem h
 exact ⟨k,hk,by rw [cA _ _ hk]; exact e⟩
structure Gd (o:ah) (l:List ae) (order row:List Int) (inn:Int→Bool):Prop where
 len:order.length=l.length
 vO:row.length=l.length+1
 nd:order.Nodup
 rng:∀ x∈order,0≤x∧x < l.length
 init:gi row 0=o.aU
 st:∀ k:Nat,k≤l.length→0≤gi row (k:Int)∧gi row (k:Int) < o.ab
 time:∀ p∈bS l,ix order p=false
 ended:∀ i:Nat,i < l.length→(gi l (i:Int)).End≠-1→inn i=true
 mv:∀ k:Nat,k < l.length→inn (gi order (k:Int))=true→(fM o (gi l (gi order (k:Int))) (gi row (k:Int))).2=true∧gi row ((k:Int)+1)=(fM o (gi l (gi order (k:Int))) (gi row (k:Int))).1
 stay:∀ k:Nat,k < l.length→inn (gi order (k:Int))=false→gi row ((k:Int)+1)=gi row (k:Int)
theorem qB {p:Int × Int}:p∈bS l↔∃ i j:Nat,i < l.length∧j < l.length∧p=((i:Int),(j:Int))∧bG (gi l (i:Int)) (gi l (j:Int))=true:=by
 unfold bS iv
 constructor
 ·intro h
  obtain ⟨i,hi,h⟩:=List.mem_flatMap.1 h
  obtain ⟨j,hj,rfl⟩:=List.mem_map.1 h
  obtain ⟨hj,ha⟩:=List.mem_filter.1 hj
  exact ⟨i,j,List.mem_range.1 hi,List.mem_range.1 hj,rfl,ha⟩
 ·rintro ⟨i,j,hi,hj,rfl,ha⟩
  exact List.mem_flatMap.2 ⟨i,List.mem_range.2 hi,List.mem_map.2 ⟨j,List.mem_filter.2 ⟨List.mem_range.2 hj,ha⟩,rfl⟩⟩
theorem AE {L:List Int} (hd:L.Nodup) {j k:Nat} (hj:j < L.length) (hk:k < L.length):ix L (gi L (j:Int),gi L (k:Int))=decide (k < j):=by
 unfold ix
 rw [qH hd hj,qH hd hk]
 refine decide_eq_decide.2 ⟨fun h=>?_,fun h=>?_⟩ <;> omega
theorem H8 (C:Cx o l s m) (hM:fA s m) {p:Int × Int} (h0:0≤p.1) (h1:p.1 < l.length) (h2:0≤p.2) (h3:p.2 < l.length):(fT s p).all (okC m)=true↔ix (aq s m).1 p=false:=by
 have hn:=C.hn
 have hd:=uM hM
 have hL:=jo (kd hM)
 have hA:=Bz hM
 obtain ⟨j,hj,ej⟩:=vm (iB hd (fun x hx=>hA x hx) hL h0 (by omega))
 obtain ⟨k,hk,ek⟩:=vm (iB hd (fun x hx=>hA x hx) hL h2 (by omega))
 have eb:=AE hd hj hk
 rw [ej,ek] at eb
 have eb:ix (aq s m).1 p=decide (k < j):=eb
 rw [eb]
 have hp:∀ (x:Int) (i:Nat),0≤x→x < l.length→i < s.Ops.toNat→(pon s m x i=true↔gi (aq s m).1 (i:Int)=x):=fun x i hx hx1 hi=>nF hM hi hx (by omega)
 have inj:∀ a b:Nat,a < s.Ops.toNat→b < s.Ops.toNat→gi (aq s m).1 (a:Int)=gi (aq s m).1 (b:Int)→a=b:=fun a b ha hb=>Bv hM ha hb
 unfold fT
 by_cases ht:dH p s.Ops=true
 ·rw [if_pos ht]
  unfold dH at ht
  have ht:=of_decide_eq_true ht
  have row:∀ a b:Nat,a < s.Ops.toNat→b < s.Ops.toNat→okC m (kQ s p a b)=(!(pon s m p.1 a) || !(pon s m p.2 b)):=by
   intro a b ha hb
   unfold okC cv kQ
   simp only [List.any_cons,List.any_nil,ln (C.place (a:=p.1) (k:=(a:Int)) h0 h1 (by omega) (by omega)),ln (C.place (a:=p.2) (k:=(b:Int)) h2 h3 (by omega) (by omega)),Bool.or_false]
   rfl
  constructor
  ·intro h
   refine decide_eq_false fun ZO=>?_
   have:=List.all_eq_true.1 h (kQ s p j k) (List.mem_flatMap.2 ⟨j,List.mem_range.2 (by omega),List.mem_map.2 ⟨k,List.mem_range.2 ZO,rfl⟩⟩)
   rw [row j k (by omega) (by omega),(hp p.1 j h0 h1 (by omega)).2 ej,(hp p.2 k h2 h3 (by omega)).2 ek] at this
   cases this
  ·intro h
   have h:=of_decide_eq_false h
   refine List.all_eq_true.2 fun c hc=>?_
   obtain ⟨a,ha,hc⟩:=List.mem_flatMap.1 hc
   obtain ⟨b,hb,rfl⟩:=List.mem_map.1 hc
   have ha:=List.mem_range.1 ha
   have hb:=List.mem_range.1 hb
   rw [row a b ha (by omega)]
   cases q1:pon s m p.1 a with
   | false=>rfl
   | true=>cases q2:pon s m p.2 b with
    | false=>rfl
    | true =>
     have e1:=(hp p.1 a h0 h1 ha).1 q1
     have e2:=(hp p.2 b h2 h3 (by omega)).1 q2
     have:=inj a j ha (by omega) (e1.trans ej.symm)
     have:=inj b k (by omega) (by omega) (e2.trans ek.symm)
     omega
 ·rw [if_neg ht]
  have e:p.1=p.2:=by
   refine Classical.byContradiction fun hne=>ht ?_
   unfold dH
   exact decide_eq_true ⟨h0,h2,by omega,by omega,hne⟩
  have:=inj j k (by omega) (by omega) (by rw [ej,ek,e])
  subst this
  simp
theorem vt:(qc o l s).all (okC m)=true↔(cc s).all (okC m)=true∧(cH s (bS l)).all (okC m)=true∧(cb s o.aU).all (okC m)=true∧(cJ o l).all (okC m)=true:=by
 unfold qc
 simp only [List.flatten_cons,List.flatten_nil,List.append_nil,List.all_append,Bool.and_eq_true]
theorem sV (C:Cx o l s m):(cc s).all (okC m)=true↔fA s m:=by
 rw [← Au C.hc C.hl 0,nH]; rfl
theorem se (C:Cx o l s m):0≤o.aU∧o.aU < s.ab:=by
 have:=wk C.ho
 have:=C.hS
 omega
theorem sH (C:Cx o l s m):(cb s o.aU).all (okC m)=true↔on s m 0 o.aU=true∧nk s m:=by
 have:=yw C.hc C.hl (se C).1 (se C).2 0
 rw [nH] at this
 exact this
theorem ur (C:Cx o l s m) (hM:fA s m):(cH s (bS l)).all (okC m)=true↔∀ p∈bS l,ix (aq s m).1 p=false:=by
 unfold cH
 rw [if_pos C.hc]
 have key:∀ p∈bS l,((fT s p).all (okC m)=true↔ix (aq s m).1 p=false):=by
  intro p hp
  obtain ⟨i,j,hi,hj,rfl,_⟩:=qB.1 hp
  exact H8 C hM (by dsimp only; omega) (by dsimp only; omega) (by dsimp only; omega) (by dsimp only; omega)
 constructor
 ·intro h p hp
  refine (key p hp).1 (List.all_eq_true.2 fun c hc=>List.all_eq_true.1 h c (List.mem_flatMap.2 ⟨p,hp,hc⟩))
 ·intro h
  refine List.all_eq_true.2 fun c hc=>?_
  obtain ⟨p,hp,hc⟩:=List.mem_flatMap.1 hc
  exact List.all_eq_true.1 ((key p hp).2 (h p hp)) c hc
theorem uP (C:Cx o l s m) (hz:au o l=s):(cJ o l).all (okC m)=true↔Mv o l s m:=by
 unfold cJ
 rw [hz,if_pos C.hc]
 exact FB C
theorem FD (C:Cx o l s m) (hz:au o l=s) (h:(qc o l s).all (okC m)=true):fA s m∧nk s m∧Gd o l (aq s m).1 (aQ s m).1 (inI s m):=by
 obtain ⟨h1,h2,h3,h4⟩:=vt.1 h
 have hM:=(sV C).1 h1
 obtain ⟨h3,hR⟩:=(sH C).1 h3
 have hT:=(ur C hM).1 h2
 have hV:=(uP C hz).1 h4
 obtain ⟨c0,c1,c2,c3⟩:=fb C.hc
 have hn:=C.hn
 have hS:=C.hS
 have hL:=jo (kd hM)
 have hRL:=rZ (m:=m) (s:=s) (by rw [vN C.hc C.hl hR])
 refine ⟨hM,hR,by omega,by omega,uM hM,fun x hx=>?_,?_,fun k hk=>?_,hT,fun i hi he=>(hV i hi).1 he,fun k hk hin=>?_,fun k hk hin=>?_⟩
 ·have:=Bz hM x hx; omega
 ·have:=se C
  exact (l8 C.hc C.hl hR (a:=0) (by omega) this.1 (by omega)).1 h3
 ·have:=zl C.hc C.hl hR (a:=k) (by omega); omega
 ·have ha:=v7 hM (k:=k) (by omega)
  have hb:=zl C.hc C.hl hR (a:=k) (by omega)
  have hp:=(nF hM (k:=k) (by omega) ha.1 ha.2).2 rfl
  have ho:=(l8 C.hc C.hl hR (a:=k) (by omega) hb.1 hb.2).2 rfl
  have ea:gi (aq s m).1 (k:Int)=(((gi (aq s m).1 (k:Int)).toNat:Nat):Int):=by omega
  have eb:gi (aQ s m).1 (k:Int)=(((gi (aQ s m).1 (k:Int)).toNat:Nat):Int):=by omega
  rw [ea] at hp hin ⊢
  rw [eb] at ho ⊢
  have:=((hV _ (by omega)).2 k hk _ (by omega) hp ho).1 hin
  refine ⟨this.1,?_⟩
  obtain ⟨_,_,_,n0,n1⟩:=tj C.ho this.1
  exact (l8 C.hc C.hl hR (a:=k+1) (by omega) n0 (by omega)).1 this.2
 ·have ha:=v7 hM (k:=k) (by omega)
  have hb:=zl C.hc C.hl hR (a:=k) (by omega)
  have hp:=(nF hM (k:=k) (by omega) ha.1 ha.2).2 rfl
  have ho:=(l8 C.hc C.hl hR (a:=k) (by omega) hb.1 hb.2).2 rfl
  have ea:gi (aq s m).1 (k:Int)=(((gi (aq s m).1 (k:Int)).toNat:Nat):Int):=by omega
  have eb:gi (aQ s m).1 (k:Int)=(((gi (aQ s m).1 (k:Int)).toNat:Nat):Int):=by omega
  rw [ea] at hp hin
  rw [eb] at ho ⊢
  have hE:(gi l (((gi (aq s m).1 (k:Int)).toNat:Nat):Int)).End=-1:=by
   refine Classical.byContradiction fun hne=>?_
   have:=(hV _ (by omega)).1 hne
   rw [hin] at this
   cases this
  have:=((hV _ (by omega)).2 k hk _ (by omega) hp ho).2 hin hE
  exact (l8 C.hc C.hl hR (a:=k+1) (by omega) (by omega) (by omega)).1 this
theorem GC (C:Cx o l s m) (hz:au o l=s) (hM:fA s m) (hR:nk s m) (G:Gd o l (aq s m).1 (aQ s m).1 (inI s m)):(qc o l s).all (okC m)=true:=by
 obtain ⟨c0,c1,c2,c3⟩:=fb C.hc
 have hn:=C.hn
 have hS:=C.hS
 refine vt.2 ⟨(sV C).2 hM,(ur C hM).2 G.time,(sH C).2 ⟨?_,hR⟩,(uP C hz).2 fun i hi=>⟨G.ended i hi,fun k hk b hb hp ho=>?_⟩⟩
 ·have:=se C
  exact (l8 C.hc C.hl hR (a:=0) (by omega) this.1 (by omega)).2 G.init
 ·have ei:=(nF hM (k:=k) (by omega) (a:=(i:Int)) (by omega) (by omega)).1 hp
  have eb:=(l8 C.hc C.hl hR (a:=k) (by omega) (b:=(b:Int)) (by omega) (by omega)).1 ho
  have g1:=G.mv k hk
  have g2:=G.stay k hk
  rw [ei,eb] at g1
  rw [ei,eb] at g2
  refine ⟨fun hin=>?_,fun hin _=>?_⟩
  ·obtain ⟨h1,h2⟩:=g1 hin
   obtain ⟨_,_,_,n0,n1⟩:=tj C.ho h1
   exact ⟨h1,(l8 C.hc C.hl hR (a:=k+1) (by omega) n0 (by omega)).2 h2⟩
  ·exact (l8 C.hc C.hl hR (a:=k+1) (by omega) (by omega) (by omega)).2 (g2 hin)
end Go.Proofs.YtobeanopikjkeaaGreat
namespace Go.Proofs.YtobeanopikjkeaaGreat
open Go Go.Sv Go.Pu
variable {o:ah} {l:List ae} {s:aa} {m:List Bool} {order row:List Int} {inn:Int→Bool}
theorem kW {α:Type} [Inhabited α] (x:α) (r:List α):gi (x :: r) 0=x:=by
 have:=cA (x :: r) 0 (by simp); exact this
theorem j6 {α:Type} [Inhabited α] (x:α) (r:List α) {k:Nat} (h:k < r.length):gi (x :: r) ((k:Int)+1)=gi r (k:Int):=by
 have:=cA (x :: r) (k+1) (by simp; omega)
 rw [cA _ _ h]
 simpa using this
def j7 (o:ah) (l:List ae) (inn:Int→Bool):List Int→List Int→List ak
 | i :: r,b :: q=>(if inn i=true then [⟨i,(aZ o b (gi l i).Kind).2.1⟩] else [])++j7 o l inn r q
 | _,_=>[]
theorem vf (o:ah) (l:List ae) (inn:Int→Bool):∀ (order row:List Int),order.length≤row.length →
  (List.range order.length).flatMap (fun k:Nat=>if inn (gi order (k:Int))=true then [(⟨gi order (k:Int),(aZ o (gi row (k:Int)) (gi l (gi order (k:Int))).Kind).2.1⟩:ak)] else [])=j7 o l inn order row
 | [],_,_=>rfl
 | i :: r,[],h=>by simp at h
 | i :: r,b :: q,h=>by
  have h:r.length≤q.length:=by simpa using h
  have ih:=vf o l inn r q h
  rw [List.length_cons,List.range_succ_eq_map,List.flatMap_cons,List.flatMap_map,j7,← ih]
  congr 1
theorem BO (s:aa) (m:List Bool) {n:Nat} {x:Int} (h0:0≤x) (h1:x < n):gi (kC s m n) x=inI s m x:=by
 rw [show x=((x.toNat:Nat):Int) by omega,cA _ _ (by simp [kC]; omega)]
 simp [kC,inI]
theorem uI (G:Gd o l order row inn) {in_:List Bool} (hin:∀ x:Int,0≤x→x < l.length→gi in_ x=inn x):∀ (d k:Nat),k+d=l.length→iI o l in_ (order.drop k) (gi row (k:Int))=some (row.drop (k+1))
 | 0,k,h=>by
  rw [List.drop_eq_nil_of_le (by have:=G.len; omega),List.drop_eq_nil_of_le (by have:=G.vO; omega)]; rfl
 | d+1,k,h=>by
  have hL:=G.len
  have hR:=G.vO
  have ih:=uI G hin d (k+1) (by omega)
  rw [iw (l:=order) (i:=k) (by omega),iw (l:=row) (i:=k+1) (by omega)]
  have hx:=G.rng _ (gS (l:=order) (i:=(k:Int)) (by omega) (by omega))
  have e1:(((k+1:Nat)):Int)=(k:Int)+1:=by omega
  rw [e1] at ih ⊢
  unfold iI
  rw [hin _ hx.1 hx.2]
  cases hb:inn (gi order (k:Int)) with
  | true =>
   obtain ⟨h1,h2⟩:=G.mv k (by omega) hb
   rw [if_pos rfl,if_pos h1,← h2,ih]
   rfl
  | false =>
   have h2:=G.stay k (by omega) hb
   rw [if_neg (by decide),← h2,ih]
   rfl
theorem CP (hR:row.length=l.length+1):row=gi row 0 :: row.drop 1:=by
 have:=iw (l:=row) (i:=0) (by omega)
 simpa using this
theorem AF {order:List Int} {aJ:List (Int × Int)} (h:∀ p∈aJ,ix order p=false):(di order aJ).2=true:=by
 unfold di
 rw [List.findIdx?_eq_none_iff.2 h]
theorem CN (hz:(bo o l).2=0) (hl:(m.length:Int)=aw (au o l)) (hM:fA (au o l) m) (hR:nk (au o l) m)
  (G:Gd o l (aq (au o l) m).1 (aQ (au o l) m).1 (inI (au o l) m)):dy o l m=true:=by
 obtain ⟨e1,_,_,e2,hk⟩:=jR hz
 unfold dy
 rw [e1]
 have hP:b6 o l (aq (au o l) m).1 (kC (au o l) m l.length)=((aQ (au o l) m).1,true):=by
  unfold b6
  have PH:jV l (aq (au o l) m).1 (kC (au o l) m l.length):=by
   refine ⟨G.len,by simp [kC],fun i hi=>⟨?_,?_⟩⟩
   ·have hi:=List.mem_range.1 hi
    exact iB G.nd (n:=l.length) (fun x hx=>G.rng x hx) G.len (by omega) (by omega)
   ·have hi:=List.mem_range.1 hi
    rw [BO _ _ (by omega) (by omega)]
    by_cases he:(gi l (i:Int)).End=-1
    ·exact .inl he
    ·exact .inr (G.ended i hi he)
  have:=uI G (in_:=kC (au o l) m l.length) (fun x h0 h1=>BO _ _ h0 h1) l.length 0 (by omega)
  rw [List.drop_zero] at this
  have this:iI o l (kC (au o l) m l.length) (aq (au o l) m).1 (gi (aQ (au o l) m).1 0)=some ((aQ (au o l) m).1.drop 1):=this
  rw [G.init] at this
  rw [if_pos ⟨hk,PH⟩,this]
  unfold Fb
  conv=>rhs; rw [CP G.vO]
  rw [G.init]
 exact decide_eq_true ⟨hz,kd hM,by rw [vN hk hl hR],by rw [hP],AF G.time,by rw [hP]⟩
theorem rq (hz:(bo o l).2=0) (hl:(m.length:Int)=aw (au o l)) (hM:fA (au o l) m) (hR:nk (au o l) m)
  (G:Gd o l (aq (au o l) m).1 (aQ (au o l) m).1 (inI (au o l) m)) :
  bX o l m=(j7 o l (inI (au o l) m) (aq (au o l) m).1 (aQ (au o l) m).1,0):=by
 unfold bX eL
 rw [if_neg (by simp [hz]),CN hz hl hM hR G,if_neg (by decide)]
 have h1:=G.len
 have h2:=G.vO
 rw [← vf o l _ _ _ (by omega)]
 rfl
theorem DS (hl:(bp l).2=0) {i:Nat} (hi:i < l.length):dY (gi l (i:Int))=0:=by
 unfold bp at hl
 split at hl
 ·cases hl
 ·exact (tH l l.length [] [] 0 (by omega) hl i (by omega) hi).1
theorem G8 (hl:(bp l).2=0) {i:Nat} (hi:i < l.length):bG (gi l (i:Int)) (gi l (i:Int))=false:=by
 have h:=DS hl hi
 unfold dY at h
 split at h
 ·omega
 ·split at h
  ·omega
  ·split at h
   ·omega
   ·rename_i he
    have he:eG (gi l (i:Int))=true:=by simpa using he
    unfold eG at he
    unfold bG
    split at he
    ·rename_i h1
     rw [h1]; rfl
    ·simp only [Bool.and_eq_true,decide_eq_true_eq] at he
     rw [Bool.and_eq_false_iff]
     exact .inr (decide_eq_false (by omega))
theorem vu {a b:ae} (h:bG a b=true):a.End≠-1:=by
 unfold bG at h
 simp only [Bool.and_eq_true,decide_eq_true_eq] at h
 omega
theorem yr (o:ah) (l:List ae) (inn:Int→Bool) {order row:List Int} {k:Nat} (h:k < order.length) (hr:k < row.length):j7 o l inn (order.drop k) (row.drop k) =
  (if inn (gi order (k:Int))=true then [⟨gi order (k:Int),(aZ o (gi row (k:Int)) (gi l (gi order (k:Int))).Kind).2.1⟩] else [])++j7 o l inn (order.drop (k+1)) (row.drop (k+1)):=by
 rw [iw h,iw hr,j7]
theorem Cm (o:ah) (l:List ae) (inn:Int→Bool) {order row:List Int} {k:Nat} (h:order.length≤k):j7 o l inn (order.drop k) (row.drop k)=[]:=by
 rw [List.drop_eq_nil_of_le h]
 cases row.drop k <;> rfl
theorem vg (o:ah) (l:List ae) (inn:Int→Bool):∀ (order row:List Int),order.length≤row.length→opers (j7 o l inn order row)=order.filter inn
 | [],row,_=>by cases row <;> rfl
 | i :: r,[],h=>by simp at h
 | i :: r,b :: q,h=>by
  have ih:=vg o l inn r q (by simpa using h)
  unfold opers at ih ⊢
  rw [j7,List.map_append,ih,List.filter_cons]
  split <;> simp
theorem CJ (ho:(bq o).2=0) {prev:List Int} {st i:Int} (h0:0≤st) (h1:st < o.ab) (a:0≤i) (b:i < l.length) (c:i∉prev) (hm:(fM o (gi l i) st).2=true) :
  ca o l prev st ⟨i,(aZ o st (gi l i).Kind).2.1⟩=((fM o (gi l i) st).1,0):=by
 obtain ⟨m1,m2,m3,_,_⟩:=tj ho hm
 have hS:db o st (gi l i).Kind (aZ o st (gi l i).Kind).2.1=((fM o (gi l i) st).1,0):=by
  unfold db
  rw [if_neg (by omega),if_neg (by rw [m1]; simp),m3]
 have hT:gY o l st ⟨i,(aZ o st (gi l i).Kind).2.1⟩=0:=by
  unfold gY
  dsimp only
  rw [hS,if_neg]
  rintro ⟨_,h2,h3⟩
  exact h3 (m2 h2)
 unfold ca nR
 dsimp only
 rw [if_neg (by omega),if_neg c,hT,if_neg (by simp),hS]
theorem sO (ho:(bq o).2=0) (G:Gd o l order row inn):∀ (d k:Nat) (prev:List Int),k+d=l.length→(∀ x∈order.drop k,x∉prev)→(eK o l prev (gi row (k:Int)) (j7 o l inn (order.drop k) (row.drop k))).2.2=0
 | 0,k,prev,h,_=>by
  rw [Cm o l inn (by have:=G.len; omega)]; rfl
 | d+1,k,prev,h,hp=>by
  have hL:=G.len
  have hR:=G.vO
  rw [yr o l inn (by omega) (by omega)]
  have hd:=G.nd
  have e:order.drop k=gi order (k:Int) :: order.drop (k+1):=iw (by omega)
  have MM:(order.drop k).Nodup:=hd.sublist (List.drop_sublist _ _)
  rw [e] at hp MM
  have hx:=G.rng _ (gS (l:=order) (i:=(k:Int)) (by omega) (by omega))
  have hs:=G.st k (by omega)
  have e1:(((k+1:Nat)):Int)=(k:Int)+1:=by omega
  cases hb:inn (gi order (k:Int)) with
  | true =>
   obtain ⟨h1,h2⟩:=G.mv k (by omega) hb
   rw [if_pos rfl,List.cons_append,List.nil_append]
   have ss:=CJ ho (l:=l) (prev:=prev) hs.1 hs.2 hx.1 hx.2 (hp _ (by simp)) h1
   unfold eK
   rw [ss,if_neg (by simp),← h2]
   have ih:=sO ho G d (k+1) (gi order (k:Int) :: prev) (by omega) (fun x Og h3=>by
    rcases List.mem_cons.1 h3 with rfl | h3
    ·exact (List.nodup_cons.1 MM).1 Og
    ·exact hp x (List.mem_cons_of_mem _ Og) h3)
   rw [e1] at ih
   exact ih
  | false =>
   have h2:=G.stay k (by omega) hb
   rw [if_neg (by decide),List.nil_append,← h2]
   have ih:=sO ho G d (k+1) prev (by omega) (fun x Og=>hp x (List.mem_cons_of_mem _ Og))
   rw [e1] at ih
   exact ih
theorem xJ (hc:(bp l).2=0) (G:Gd o l order row inn):∀ (d k:Nat) (prev:List Int),k+d=l.length→(∀ j:Nat,j < k→inn (gi order (j:Int))=true→gi order (j:Int)∈prev)→uN l prev (j7 o l inn (order.drop k) (row.drop k))
 | 0,k,prev,h,_=>by
  rw [Cm o l inn (by have:=G.len; omega)]; trivial
 | d+1,k,prev,h,hp=>by
  have hL:=G.len
  have hR:=G.vO
  rw [yr o l inn (by omega) (by omega)]
  have hx:=G.rng _ (gS (l:=order) (i:=(k:Int)) (by omega) (by omega))
  have next:∀ xA,(∀ x∈prev,x∈xA)→(inn (gi order (k:Int))=true→gi order (k:Int)∈xA)→uN l xA (j7 o l inn (order.drop (k+1)) (row.drop (k+1))):=fun xA hs hk =>
   xJ hc G d (k+1) xA (by omega) (fun j hj hin=>by
    by_cases e:j=k
    ·subst e; exact hk hin
    ·exact hs _ (hp j (by omega) hin))
  cases hb:inn (gi order (k:Int)) with
  | true =>
   rw [if_pos rfl,List.cons_append,List.nil_append]
   refine ⟨fun q hq ha=>?_,next _ (fun x hx=>List.mem_cons_of_mem _ hx) (fun _=>List.mem_cons_self ..)⟩
   have ha:bG (gi l (q:Int)) (gi l (gi order (k:Int)))=true:=ha
   obtain ⟨j,hj,ej⟩:=vm (iB G.nd (n:=l.length) (fun x hx=>G.rng x hx) hL (i:=(q:Int)) (by omega) (by omega))
   have hin:=G.ended q hq (vu ha)
   have PJ:((q:Int),gi order (k:Int))∈bS l:=qB.2 ⟨q,(gi order (k:Int)).toNat,hq,by omega,by rw [show (((gi order (k:Int)).toNat:Nat):Int)=gi order (k:Int) by omega],by rw [show (((gi order (k:Int)).toNat:Nat):Int)=gi order (k:Int) by omega]; exact ha⟩
   have Gv:=G.time _ PJ
   rw [← ej,AE G.nd hj (by omega)] at Gv
   have Gv:=of_decide_eq_false Gv
   have hne:j≠k:=by
    rintro rfl
    rw [ej,G8 hc hq] at ha
    cases ha
   have:=hp j (by omega) (by rw [ej]; exact hin)
   rwa [ej] at this
  | false =>
   rw [if_neg (by decide),List.nil_append]
   exact next prev (fun _ h=>h) (fun h=>by rw [hb] at h; cases h)
theorem NB (ho:(bq o).2=0) (hc:(bp l).2=0) (G:Gd o l order row inn):gg o l (j7 o l inn order row)=true:=by
 have hL:=G.len
 have hR:=G.vO
 refine Aa.2 ⟨ho,hc,?_,?_,?_⟩
 ·have:=sO ho G l.length 0 [] (by omega) (fun _ _ h=>by cases h)
  rw [List.drop_zero,List.drop_zero] at this
  have this:(eK o l [] (gi row 0) (j7 o l inn order row)).2.2=0:=this
  rw [G.init] at this
  unfold fE bU
  rw [(wk ho).1,if_neg (by decide)]
  exact this
 ·have:=xJ hc G l.length 0 [] (by omega) (fun j hj=>by omega)
  rw [List.drop_zero,List.drop_zero] at this
  have:=(Bw _ _).1 this
  intro y hy
  refine G5 fun k hk h=>?_
  rcases this y hy k hk h.1 with h2 | h2
  ·cases h2
  ·exact h.2 h2
 ·intro x hx
  obtain ⟨x0,x1,x2,x3⟩:=kR.1 hx
  rw [vg o l inn order row (by omega)] at x3
  refine x3 (List.mem_filter.2 ⟨iB G.nd (n:=l.length) (fun x hx=>G.rng x hx) hL x0 x1,?_⟩)
  have:=G.ended x.toNat (by omega) (by rw [show ((x.toNat:Nat):Int)=x by omega]; exact x2)
  rwa [show ((x.toNat:Nat):Int)=x by omega] at this
end Go.Proofs.YtobeanopikjkeaaGreat
namespace Go.Proofs.YtobeanopikjkeaaGreat
open Go Go.Sv Go.Pu
variable {o:ah} {l:List ae}
def xy (l:List ae) (p:List ak):List Int:=((List.range l.length).map Int.ofNat).filter fun x=>!decide (x∈opers p)
def mc (l:List ae) (p:List ak):List Int:=opers p++xy l p
def m9 (p:List ak) (x:Int):Bool:=decide (x∈opers p)
def stR (o:ah) (l:List ae) (inn:Int→Bool):List Int→Int→List Int
 | [],st=>[st]
 | i :: r,st=>st :: stR o l inn r (if inn i=true then (fM o (gi l i) st).1 else st)
theorem kL (o:ah) (l:List ae) (inn:Int→Bool):∀ (r:List Int) (st:Int),(stR o l inn r st).length=r.length+1
 | [],st=>rfl
 | i :: r,st=>by simp [stR,kL o l inn r]
theorem pf (o:ah) (l:List ae) (inn:Int→Bool) (r:List Int) (st:Int):gi (stR o l inn r st) 0=st:=by
 cases r with
 | nil=>exact kW _ _
 | cons=>exact kW _ _
theorem sI (o:ah) (l:List ae) (inn:Int→Bool):∀ (r:List Int) (st:Int) (k:Nat),k < r.length →
  gi (stR o l inn r st) ((k:Int)+1)=if inn (gi r (k:Int))=true then (fM o (gi l (gi r (k:Int))) (gi (stR o l inn r st) (k:Int))).1 else gi (stR o l inn r st) (k:Int)
 | [],st,k,h=>by simp at h
 | i :: r,st,0,h=>by
  have e0:gi (i :: r) ((0:Nat):Int)=i:=kW i r
  have e1:gi (stR o l inn (i :: r) st) ((0:Nat):Int)=st:=pf o l inn (i :: r) st
  have e2:gi (stR o l inn (i :: r) st) (((0:Nat):Int)+1)=gi (stR o l inn r (if inn i=true then (fM o (gi l i) st).1 else st)) ((0:Nat):Int):=j6 _ _ (by rw [kL]; omega)
  rw [e2,e0,e1]
  exact pf o l inn r _
 | i :: r,st,k+1,h=>by
  have hk:k < r.length:=by simpa using h
  have e0:gi (i :: r) (((k+1:Nat)):Int)=gi r (k:Int):=j6 i r hk
  have e1:gi (stR o l inn (i :: r) st) (((k+1:Nat)):Int)=gi (stR o l inn r (if inn i=true then (fM o (gi l i) st).1 else st)) (k:Int):=j6 _ _ (by rw [kL]; omega)
  have e2:gi (stR o l inn (i :: r) st) ((((k+1:Nat)):Int)+1)=gi (stR o l inn r (if inn i=true then (fM o (gi l i) st).1 else st)) (((k+1:Nat)):Int):=j6 _ _ (by rw [kL]; omega)
  rw [e2,e0,e1]
  exact sI o l inn r _ k hk
theorem EX (ho:(bq o).2=0) {prev:List Int} {st:Int} {p:ak} (h0:0≤st) (h1:st < o.ab) (h:(ca o l prev st p).2=0) :
  0≤p.Oper∧p.Oper < l.length∧p.Oper∉prev∧(fM o (gi l p.Oper) st).2=true∧(ca o l prev st p).1=(fM o (gi l p.Oper) st).1∧p.Result=(aZ o st (gi l p.Oper).Kind).2.1:=by
 unfold ca at h ⊢
 split at h
 ·cases h
 ·rename_i hr
  rw [if_neg hr]
  split at h
  ·cases h
  ·rename_i hm
   rw [if_neg hm]
   unfold nR at h ⊢
   split at h
   ·rename_i ht; exact absurd h ht
   ·rename_i ht
    rw [if_neg ht]
    have ht:gY o l st p=0:=Classical.byContradiction ht
    unfold gY at ht
    split at ht
    ·cases ht
    ·rename_i hq
     unfold db at ht hq ⊢
     rw [if_neg (by omega)] at ht hq ⊢
     split at ht
     ·cases ht
     ·rename_i hn
      rw [if_neg hn] at hq ⊢
      have m1:(aZ o st (gi l p.Oper).Kind).2.2=true:=by
       cases hz:(aZ o st (gi l p.Oper).Kind).2.2 with
       | true=>rfl
       | false=>exact absurd (.inl hz) hn
      have m2:(aZ o st (gi l p.Oper).Kind).2.1=p.Result:=Classical.byContradiction fun h=>hn (.inr h)
      have hM:fM o (gi l p.Oper) st=((aZ o st (gi l p.Oper).Kind).1,true):=by
       unfold fM
       rw [if_neg]
       rintro (h | ⟨h,h'⟩)
       ·rw [m1] at h; cases h
       ·exact hq ⟨rfl,h,by rw [← m2]; exact h'⟩
      rw [hM]
      exact ⟨by omega,by omega,hm,rfl,rfl,m2.symm⟩
theorem kb (ho:(bq o).2=0) (inn:Int→Bool) (A:List Int):∀ (p:List ak) (prev:List Int) (st:Int),0≤st→st < o.ab→(∀ x∈opers p,inn x=true)→(∀ x∈A,inn x=false)→(eK o l prev st p).2.2=0 →
  j7 o l inn (opers p++A) (stR o l inn (opers p++A) st)=p∧(∀ k:Nat,k < p.length→(fM o (gi l (gi (opers p++A) (k:Int))) (gi (stR o l inn (opers p++A) st) (k:Int))).2=true) ∧
  ∀ k:Nat,k≤(opers p++A).length→0≤gi (stR o l inn (opers p++A) st) (k:Int)∧gi (stR o l inn (opers p++A) st) (k:Int) < o.ab
 | [],prev,st,h0,h1,_,hA,_=>by
  have key:∀ (A:List Int),(∀ x∈A,inn x=false)→j7 o l inn A (stR o l inn A st)=[]∧∀ k:Nat,k≤A.length→gi (stR o l inn A st) (k:Int)=st:=by
   intro A
   induction A with
   | nil =>
    intro _
    refine ⟨rfl,fun k hk=>?_⟩
    have:k=0:=by simpa using hk
    subst this
    exact pf o l inn [] st
   | cons i r ih =>
    intro hA
    have hi:=hA i (by simp)
    have ih:=ih fun x hx=>hA x (by simp [hx])
    have e:stR o l inn (i :: r) st=st :: stR o l inn r st:=by simp [stR,hi]
    rw [e]
    refine ⟨by rw [j7,if_neg (by rw [hi]; decide),ih.1]; rfl,fun k hk=>?_⟩
    cases k with
    | zero=>exact kW _ _
    | succ k =>
     have hk:k≤r.length:=by simpa using hk
     have:=j6 st (stR o l inn r st) (k:=k) (by rw [kL]; omega)
     rw [show (((k+1:Nat)):Int)=(k:Int)+1 by omega,this]
     exact ih.2 k hk
  have:=key A hA
  refine ⟨this.1,fun k hk=>by simp at hk,fun k hk=>?_⟩
  have e:=this.2 k hk
  have e:gi (stR o l inn (opers []++A) st) (k:Int)=st:=e
  rw [e]; exact ⟨h0,h1⟩
 | p :: ps,prev,st,h0,h1,hp,hA,hr=>by
  unfold eK at hr
  split at hr
  ·rename_i hn; exact absurd hr hn
  ·rename_i hn
   have hs:=EX ho h0 h1 (Classical.byContradiction hn)
   obtain ⟨_,_,_,n0,n1⟩:=tj ho hs.2.2.2.1
   have hi:inn p.Oper=true:=hp _ (by simp [opers])
   rw [hs.2.2.2.2.1] at hr
   have ih:=kb ho inn A ps (p.Oper :: prev) (fM o (gi l p.Oper) st).1 n0 n1 (fun x hx=>hp x (by simp only [opers,List.map_cons] at hx ⊢; exact List.mem_cons_of_mem _ hx)) hA hr
   have e:stR o l inn (opers (p :: ps)++A) st=st :: stR o l inn (opers ps++A) (fM o (gi l p.Oper) st).1:=by
    show stR o l inn (p.Oper :: (opers ps++A)) st=_
    simp [stR,hi]
   have eo:opers (p :: ps)++A=p.Oper :: (opers ps++A):=rfl
   rw [e,eo]
   refine ⟨?_,fun k hk=>?_,fun k hk=>?_⟩
   ·rw [j7,if_pos hi,ih.1,← hs.2.2.2.2.2]; rfl
   ·cases k with
    | zero =>
     have a1:gi (p.Oper :: (opers ps++A)) ((0:Nat):Int)=p.Oper:=kW _ _
     have a2:gi (st :: stR o l inn (opers ps++A) (fM o (gi l p.Oper) st).1) ((0:Nat):Int)=st:=kW _ _
     rw [a1,a2]; exact hs.2.2.2.1
    | succ k =>
     have hk:k < ps.length:=by simpa using hk
     have ln:(opers ps++A).length=ps.length+A.length:=by simp [opers]
     rw [show (((k+1:Nat)):Int)=(k:Int)+1 by omega,j6 _ _ (by omega),j6 _ _ (by rw [kL]; omega)]
     exact ih.2.1 k hk
   ·cases k with
    | zero =>
     have a2:gi (st :: stR o l inn (opers ps++A) (fM o (gi l p.Oper) st).1) ((0:Nat):Int)=st:=kW _ _
     rw [a2]; exact ⟨h0,h1⟩
    | succ k =>
     have hk:k≤(opers ps++A).length:=by simpa using hk
     rw [show (((k+1:Nat)):Int)=(k:Int)+1 by omega,j6 _ _ (by rw [kL]; omega)]
     exact ih.2.2 k hk
theorem mU {p:List ak} {x:Int}:x∈xy l p↔(0≤x∧x < l.length)∧x∉opers p:=by
 unfold xy
 rw [List.mem_filter,List.mem_map]
 constructor
 ·rintro ⟨⟨i,hi,rfl⟩,h⟩
  have:=List.mem_range.1 hi
  exact ⟨⟨Int.natCast_nonneg i,by show (i:Int) < _; omega⟩,by simpa using h⟩
 ·rintro ⟨⟨h0,h1⟩,h⟩
  exact ⟨⟨x.toNat,List.mem_range.2 (by omega),by show ((x.toNat:Nat):Int)=x; omega⟩,by simpa using h⟩
theorem BA {p:List ak} (hp:(opers p).Nodup):(mc l p).Nodup:=by
 unfold mc
 refine List.nodup_append.2 ⟨hp,(iX _).sublist (List.filter_sublist ..),fun a ha b hb e=>?_⟩
 subst e
 exact (mU.1 hb).2 ha
theorem BB {p:List ak} (hr:∀ x∈opers p,0≤x∧x < l.length):∀ x∈mc l p,0≤x∧x < l.length:=by
 intro x hx
 unfold mc at hx
 rcases List.mem_append.1 hx with hx | hx
 ·exact hr x hx
 ·exact (mU.1 hx).1
theorem td {p:List ak} {x:Int} (h0:0≤x) (h1:x < l.length):x∈mc l p:=by
 unfold mc
 by_cases h:x∈opers p
 ·exact List.mem_append.2 (.inl h)
 ·exact List.mem_append.2 (.inr (mU.2 ⟨⟨h0,h1⟩,h⟩))
theorem Fh {p:List ak} (hp:(opers p).Nodup) (hr:∀ x∈opers p,0≤x∧x < l.length):(mc l p).length=l.length:=by
 have h1:=oC l.length _ (BA (l:=l) hp) (BB hr)
 have h2:=vL ((List.range l.length).map Int.ofNat) (mc l p) (iX _) (fun x hx=>by
  obtain ⟨i,hi,rfl⟩:=List.mem_map.1 hx
  have:=List.mem_range.1 hi
  exact td (Int.natCast_nonneg i) (by show (i:Int) < _; omega))
 rw [List.length_map,List.length_range] at h2
 omega
theorem FK {p:List ak} (h:gg o l p=true):Gd o l (mc l p) (stR o l (m9 p) (mc l p) o.aU) (m9 p)∧j7 o l (m9 p) (mc l p) (stR o l (m9 p) (mc l p) o.aU)=p:=by
 obtain ⟨ho,hc,jZ,Gv,hmiss⟩:=Aa.1 h
 obtain ⟨MM,hr⟩:=sW jZ
 obtain ⟨cC,i0,i1⟩:=wk ho
 have jZ:(eK o l [] o.aU p).2.2=0:=by
  unfold fE bU at jZ
  rw [cC,if_neg (by decide)] at jZ
  exact jZ
 have hin:∀ x∈opers p,m9 p x=true:=fun x hx=>decide_eq_true hx
 have Ge:∀ x∈xy l p,m9 p x=false:=fun x hx=>decide_eq_false (mU.1 hx).2
 obtain ⟨P1,P2,P3⟩:=kb ho (m9 p) (xy l p) p [] o.aU i0 i1 hin Ge jZ
 have hL:=Fh MM hr
 have hN:=BA (l:=l) MM
 have Ad:(opers p).length=p.length:=by simp [opers]
 have ended:∀ i:Nat,i < l.length→(gi l (i:Int)).End≠-1→(i:Int)∈opers p:=fun i hi he =>
  Classical.byContradiction fun hn=>hmiss i (kR.2 ⟨by omega,by omega,he,hn⟩)
 have left:∀ k:Nat,k < p.length→gi (mc l p) (k:Int)=(gi p (k:Int)).Oper:=by
  intro k hk
  unfold mc
  rw [cA _ _ (by rw [List.length_append]; omega),List.getElem_append_left (by omega),cA _ _ hk]
  simp [opers]
 have right:∀ k:Nat,p.length≤k→k < l.length→gi (mc l p) (k:Int)∉opers p:=by
  intro k hk sf
  unfold mc at hL ⊢
  rw [cA _ _ (by omega),List.getElem_append_right (by omega)]
  exact (mU.1 (List.getElem_mem _)).2
 refine ⟨⟨hL,by rw [kL,hL],hN,BB hr,pf _ _ _ _ _,fun k hk=>P3 k (by unfold mc at hL; omega),?_,fun i hi he=>decide_eq_true (ended i hi he),?_,?_⟩,P1⟩
 ·intro pr PH
  obtain ⟨i,j,hi,hj,rfl,ha⟩:=qB.1 PH
  have ZU:=ended i hi (vu ha)
  obtain ⟨a,B8,ea⟩:=vm (td (l:=l) (p:=p) (x:=(i:Int)) (by omega) (by omega))
  obtain ⟨b,hb1,eb⟩:=vm (td (l:=l) (p:=p) (x:=(j:Int)) (by omega) (by omega))
  have e:=AE hN B8 hb1
  rw [ea,eb] at e
  rw [e]
  refine decide_eq_false fun eS=>?_
  have hap:a < p.length:=Classical.byContradiction fun hn=>right a (by omega) (by omega) (by rw [ea]; exact ZU)
  have UE:=left b (by omega)
  have WI:(gi p (b:Int)).Oper=(j:Int):=UE.symm.trans eb
  have hb:=Gv b (by omega)
  have Ae:(i:Int)∈opers (p.take b):=Classical.byContradiction fun hn=>by
   have:=G4 (l:=l) (p:=p) (t:=b) (k:=i) (by rw [WI]; exact ⟨by omega,by omega⟩) hi (by rw [WI]; exact ha) hn
   rw [hb] at this
   cases this
  unfold opers at Ae
  rw [List.map_take] at Ae
  obtain ⟨c,eO,ec⟩:=List.getElem_of_mem Ae
  rw [List.length_take,List.length_map] at eO
  rw [List.getElem_take] at ec
  have ec':gi (mc l p) (c:Int)=(i:Int):=by
   rw [left c (by omega),cA _ _ (by omega)]
   simpa using ec
  have:c=a:=by
   have:=qH hN (k:=c) (by omega)
   rw [ec',← ea,qH hN B8] at this
   omega
  omega
 ·intro k hk hb
  have ZN:k < p.length:=Classical.byContradiction fun hn=>right k (by omega) hk (of_decide_eq_true hb)
  refine ⟨P2 k ZN,?_⟩
  rw [sI o l _ _ _ k (by omega),if_pos hb]
 ·intro k hk hb
  rw [sI o l _ _ _ k (by omega),if_neg (by rw [hb]; decide)]
end Go.Proofs.YtobeanopikjkeaaGreat
namespace Go.Proofs.YtobeanopikjkeaaGreat
open Go Go.Sv Go.Pu
variable {o:ah} {l:List ae} {s:aa} {order row:List Int} {inn:Int→Bool}
def G2 (n S:Nat) (order row:List Int) (inn:Int→Bool) (v:Nat):Bool :=
 if v < n * n then gi order ((v % n:Nat):Int) == ((v / n:Nat):Int) else if v < n * n+n then inn ((v - n * n:Nat):Int)
 else gi row (((v - (n * n+n)) / S:Nat):Int) == (((v - (n * n+n)) % S:Nat):Int)
def trM (s:aa) (order row:List Int) (inn:Int→Bool):List Bool:=(List.range (aw s).toNat).map (G2 s.Ops.toNat s.ab.toNat order row inn)
theorem pb (hc:ao s=0):(aw s).toNat=s.Ops.toNat * s.Ops.toNat+s.Ops.toNat+(s.Ops.toNat+1) * s.ab.toNat∧0≤aw s:=by
 obtain ⟨c0,c1,c2,c3⟩:=fb hc
 have e1:s.Ops=(s.Ops.toNat:Int):=by omega
 have e2:s.ab=(s.ab.toNat:Int):=by omega
 have:aw s=((s.Ops.toNat * s.Ops.toNat+s.Ops.toNat+(s.Ops.toNat+1) * s.ab.toNat:Nat):Int):=by
  unfold aw
  rw [if_pos hc]
  conv=>lhs; rw [e1,e2]
  push_cast
  rw [Int.mul_comm (s.ab.toNat:Int)]
 rw [this]
 exact ⟨by omega,by omega⟩
theorem EM (hc:ao s=0) {v:Nat} (h:v < (aw s).toNat):gi (trM s order row inn) (v:Int)=G2 s.Ops.toNat s.ab.toNat order row inn v:=by
 unfold trM
 rw [cA _ _ (by simpa using h)]
 simp
theorem vH (hc:ao s=0):((trM s order row inn).length:Int)=aw s:=by
 have:=pb hc
 simp [trM]; omega
theorem It {a k n:Nat} (ha:a < n) (hk:k < n):a * n+k < n * n:=by
 have:(a+1) * n≤n * n:=Nat.mul_le_mul_right n ha
 rw [Nat.add_mul,Nat.one_mul] at this
 omega
theorem QQ {a k n:Nat} (hk:k < n):(a * n+k) / n=a∧(a * n+k) % n=k:=by
 have h0:0 < n:=by omega
 constructor
 ·rw [Nat.mul_comm,Nat.mul_add_div h0,Nat.div_eq_of_lt hk,Nat.add_zero]
 ·rw [Nat.mul_comm,Nat.mul_add_mod,Nat.mod_eq_of_lt hk]
theorem vG (hc:ao s=0) {a k:Nat} (ha:a < s.Ops.toNat) (hk:k < s.Ops.toNat):pon s (trM s order row inn) (a:Int) (k:Int)=(gi order (k:Int) == (a:Int)):=by
 have hv:=pb hc
 have hr:=It ha hk
 have hd:=QQ (a:=a) hk
 have e:=(mX hc (a:=(a:Int)) (k:=(k:Int)) (by omega) (by omega) (by omega) (by omega)).1
 have e1:s.Ops=(s.Ops.toNat:Int):=by omega
 have e2:dp s a k - 1=((a * s.Ops.toNat+k:Nat):Int):=by
  rw [e]
  conv=>lhs; rw [e1]
  push_cast; omega
 unfold pon
 rw [e2,EM hc (by omega)]
 unfold G2
 rw [if_pos hr,hd.1,hd.2]
theorem OO (hc:ao s=0) {i:Nat} (hi:i < s.Ops.toNat):inI s (trM s order row inn) (i:Int)=inn (i:Int):=by
 have hv:=pb hc
 have e:=(BN hc (i:=(i:Int)) (by omega) (by omega)).1
 have e1:s.Ops=(s.Ops.toNat:Int):=by omega
 have e2:gL s i - 1=((s.Ops.toNat * s.Ops.toNat+i:Nat):Int):=by
  rw [e]
  conv=>lhs; rw [e1]
  push_cast; omega
 unfold inI
 rw [e2,EM hc (by omega)]
 unfold G2
 rw [if_neg (by omega),if_pos (by omega),Nat.add_sub_cancel_left]
theorem JX (hc:ao s=0) {a b:Nat} (ha:a≤s.Ops.toNat) (hb:b < s.ab.toNat):on s (trM s order row inn) (a:Int) (b:Int)=(gi row (a:Int) == (b:Int)):=by
 obtain ⟨c0,c1,c2,c3⟩:=fb hc
 have hv:=pb hc
 have hr:a * s.ab.toNat+b < (s.Ops.toNat+1) * s.ab.toNat:=by
  have:(a+1) * s.ab.toNat≤(s.Ops.toNat+1) * s.ab.toNat:=Nat.mul_le_mul_right _ (by omega)
  rw [Nat.add_mul,Nat.one_mul] at this
  omega
 have hd:=QQ (a:=a) hb
 have e:=(yI hc (a:=(a:Int)) (b:=(b:Int)) (by omega) (by omega) (by omega) (by omega)).1
 have e1:s.Ops=(s.Ops.toNat:Int):=by omega
 have e3:s.ab=(s.ab.toNat:Int):=by omega
 have e2:bL s a b - 1=((s.Ops.toNat * s.Ops.toNat+s.Ops.toNat+(a * s.ab.toNat+b):Nat):Int):=by
  rw [e]
  conv=>lhs; rw [e1,e3]
  push_cast; omega
 unfold on
 rw [e2,EM hc (by omega)]
 unfold G2
 rw [if_neg (by omega),if_neg (by omega),Nat.add_sub_cancel_left,hd.1,hd.2]
theorem wb {L:List Int} (hd:L.Nodup) {x:Int} (h:∀ y,y∈L↔y=x):L=[x]:=by
 cases L with
 | nil=>exact absurd ((h x).2 rfl) (by simp)
 | cons y r =>
  have hy:=(h y).1 (by simp)
  subst hy
  cases r with
  | nil=>rfl
  | cons z q =>
   have hz:=(h z).1 (by simp)
   subst hz
   exact absurd (List.mem_cons_self ..) (List.nodup_cons.1 hd).1
theorem EY (t:Nat) (p:Int→Bool):(sel t p).Nodup:=(iX t).sublist (List.filter_sublist ..)
theorem EK (s:aa) (m:List Bool) (a:Int) (t:Nat):(g9 s m a t).Nodup:=(iX t).sublist (List.filter_sublist ..)
theorem EO (hc:ao s=0) (hL:order.length=s.Ops.toNat) (hr:∀ x∈order,0≤x∧x < s.Ops.toNat) {k:Nat} (hk:k < s.Ops.toNat):sel s.Ops.toNat (fun a=>pon s (trM s order row inn) a (k:Int))=[gi order (k:Int)]:=by
 have hx:=hr _ (gS (l:=order) (i:=(k:Int)) (by omega) (by omega))
 refine wb (EY _ _) fun y=>?_
 rw [iW]
 constructor
 ·rintro ⟨y0,y1,h⟩
  have:=vG (order:=order) (row:=row) (inn:=inn) hc (a:=y.toNat) (k:=k) (by omega) hk
  rw [show ((y.toNat:Nat):Int)=y by omega] at this
  have h:pon s (trM s order row inn) y (k:Int)=true:=h
  rw [this] at h
  exact (by simpa using h:gi order (k:Int)=y).symm
 ·rintro rfl
  refine ⟨hx.1,hx.2,?_⟩
  have:=vG (order:=order) (row:=row) (inn:=inn) hc (a:=(gi order (k:Int)).toNat) (k:=k) (by omega) hk
  rw [show (((gi order (k:Int)).toNat:Nat):Int)=gi order (k:Int) by omega] at this
  show pon s (trM s order row inn) (gi order (k:Int)) (k:Int)=true
  rw [this]; simp
theorem LB (hc:ao s=0) (hL:order.length=s.Ops.toNat) (hd:order.Nodup) (hr:∀ x∈order,0≤x∧x < s.Ops.toNat):fA s (trM s order row inn)∧(aq s (trM s order row inn)).1=order:=by
 have hM:fA s (trM s order row inn):=by
  refine ⟨hc,vH hc,fun a ha=>?_,fun k hk=>?_⟩
  ·have ha:=List.mem_range.1 ha
   obtain ⟨k,hk,ek⟩:=vm (iB hd hr hL (i:=(a:Int)) (by omega) (by omega))
   have:sel s.Ops.toNat (pon s (trM s order row inn) (a:Int))=[(k:Int)]:=by
    refine wb (EY _ _) fun y=>?_
    rw [iW]
    constructor
    ·rintro ⟨y0,y1,h⟩
     have:=vG (order:=order) (row:=row) (inn:=inn) hc (a:=a) (k:=y.toNat) ha (by omega)
     rw [show ((y.toNat:Nat):Int)=y by omega] at this
     rw [this] at h
     have h:gi order y=(a:Int):=by simpa using h
     have i1:=qH hd (k:=y.toNat) (by omega)
     rw [show ((y.toNat:Nat):Int)=y by omega,h,← ek,qH hd hk] at i1
     exact i1.symm
    ·rintro rfl
     refine ⟨by omega,by omega,?_⟩
     rw [vG hc ha (by omega),ek]; simp
   rw [this]; rfl
  ·rw [EO hc hL hr (List.mem_range.1 hk)]; rfl
 refine ⟨hM,?_⟩
 have h1:=jo (kd hM)
 refine tB (by omega) fun j hj hj2=>?_
 have e:j=((j.toNat:Nat):Int):=by omega
 rw [e,Al hM (by omega)]
 unfold who
 rw [EO hc hL hr (by omega)]; rfl
theorem LA (hc:ao s=0) (hL:row.length=s.Ops.toNat+1) (hr:∀ k:Nat,k≤s.Ops.toNat→0≤gi row (k:Int)∧gi row (k:Int) < s.ab.toNat):nk s (trM s order row inn)∧(aQ s (trM s order row inn)).1=row:=by
 obtain ⟨c0,c1,c2,c3⟩:=fb hc
 have key:∀ a:Nat,a≤s.Ops.toNat→g9 s (trM s order row inn) (a:Int) s.ab.toNat=[gi row (a:Int)]:=by
  intro a ha
  have hx:=hr a ha
  refine wb (EK _ _ _ _) fun y=>?_
  rw [lC]
  constructor
  ·rintro ⟨y0,y1,h⟩
   have:=JX (order:=order) (row:=row) (inn:=inn) hc (a:=a) (b:=y.toNat) ha (by omega)
   rw [show ((y.toNat:Nat):Int)=y by omega] at this
   rw [this] at h
   exact (by simpa using h:gi row (a:Int)=y).symm
  ·rintro rfl
   refine ⟨hx.1,hx.2,?_⟩
   have:=JX (order:=order) (row:=row) (inn:=inn) hc (a:=a) (b:=(gi row (a:Int)).toNat) ha (by omega)
   rw [show (((gi row (a:Int)).toNat:Nat):Int)=gi row (a:Int) by omega] at this
   rw [this]; simp
 have hR:nk s (trM s order row inn):=by
  refine List.all_eq_true.2 fun a ha=>?_
  have ha:=List.mem_range.1 ha
  unfold oneOf
  rw [key a (by omega)]; rfl
 refine ⟨hR,?_⟩
 have h1:=rZ (s:=s) (m:=trM s order row inn) (by rw [vN hc (vH hc) hR])
 refine tB (by omega) fun j hj hj2=>?_
 have e:j=((j.toNat:Nat):Int):=by omega
 rw [e,Ak hc (vH hc) hR (by omega)]
 unfold lh
 rw [key _ (by omega)]; rfl
theorem Gd.congr {Dl:Int→Bool} (G:Gd o l order row inn) (h:∀ x:Int,0≤x→x < l.length→Dl x=inn x):Gd o l order row Dl:=by
 have hx:∀ k:Nat,k < l.length→Dl (gi order (k:Int))=inn (gi order (k:Int)):=fun k hk=>by
  have:=G.rng _ (gS (l:=order) (i:=(k:Int)) (by omega) (by have:=G.len; omega))
  exact h _ this.1 this.2
 exact ⟨G.len,G.vO,G.nd,G.rng,G.init,G.st,G.time,fun i hi he=>by rw [h _ (by omega) (by omega)]; exact G.ended i hi he,fun k hk hb=>G.mv k hk (by rw [← hx k hk]; exact hb),fun k hk hb=>G.stay k hk (by rw [← hx k hk]; exact hb)⟩
theorem tF {Dl:Int→Bool}:∀ (order row:List Int),(∀ x∈order,Dl x=inn x)→j7 o l Dl order row=j7 o l inn order row
 | [],row,_=>by cases row <;> rfl
 | i :: r,[],_=>rfl
 | i :: r,b :: q,h=>by
  rw [j7,j7,h i (by simp),tF r q (fun x hx=>h x (by simp [hx]))]
theorem K9 {m:List Bool} (hz:(bo o l).2=0) (hl:(m.length:Int)=aw (au o l)):Cx o l (au o l) m:=by
 obtain ⟨_,ho,_,e2,hk⟩:=jR hz
 exact ⟨hk,hl,by rw [e2],by rw [e2],ho⟩
theorem FJ {p:List ak} (hz:(bo o l).2=0) (h:gg o l p=true) :
  ∃ m:List Bool,(m.length:Int)=aw (au o l)∧(qc o l (au o l)).all (okC m)=true∧bX o l m=(p,0):=by
 obtain ⟨_,ho,_,e2,hk⟩:=jR hz
 obtain ⟨G,e⟩:=FK h
 generalize Sh:mc l p=order at *
 generalize Se:stR o l (m9 p) order o.aU=row at *
 have hO:(au o l).Ops.toNat=l.length:=by rw [e2]; show ((l.length:Int)).toNat=_; omega
 have hS:(au o l).ab=o.ab:=by rw [e2]
 have hl:=vH (order:=order) (row:=row) (inn:=m9 p) hk
 obtain ⟨hM,eo⟩:=LB (order:=order) (row:=row) (inn:=m9 p) hk (by rw [hO]; exact G.len) G.nd (fun x hx=>by rw [hO]; exact G.rng x hx)
 obtain ⟨hR,er⟩:=LA (order:=order) (row:=row) (inn:=m9 p) hk (by rw [hO]; exact G.vO) (fun k hk=>by have:=G.st k (by omega); rw [hS]; omega)
 have hin:∀ x:Int,0≤x→x < l.length→inI (au o l) (trM (au o l) order row (m9 p)) x=m9 p x:=fun x h0 h1=>by
  have:=OO (order:=order) (row:=row) (inn:=m9 p) hk (i:=x.toNat) (by omega)
  rwa [show ((x.toNat:Nat):Int)=x by omega] at this
 have G':Gd o l (aq (au o l) (trM (au o l) order row (m9 p))).1 (aQ (au o l) (trM (au o l) order row (m9 p))).1 (inI (au o l) (trM (au o l) order row (m9 p))):=by
  rw [eo,er]
  exact G.congr hin
 refine ⟨_,hl,GC (K9 hz hl) rfl hM hR G',?_⟩
 rw [rq hz hl hM hR G',eo,er,tF order row (fun x hx=>hin x (G.rng x hx).1 (G.rng x hx).2),e]
theorem E2 {m:List Bool} (hz:(bo o l).2=0) (hl:(m.length:Int)=aw (au o l)) (h:(qc o l (au o l)).all (okC m)=true) :
  ∃ p,bX o l m=(p,0)∧gg o l p=true:=by
 obtain ⟨_,ho,hc,_,hk⟩:=jR hz
 obtain ⟨hM,hR,G⟩:=FD (K9 hz hl) rfl h
 exact ⟨_,rq hz hl hM hR G,NB ho hc G⟩
end Go.Proofs.YtobeanopikjkeaaGreat
namespace Go.Proofs.YtobeanopikjkeaaGreat
open Go Go.Sv Go.Pu
theorem w8 {n:Nat} (h:n < 4294967296):IntKind.u32.wrap (n:Int)=n:=by
 simp [IntKind.wrap,IntKind.signed,IntKind.bits]; omega
theorem qR {n:Nat} (h:n < 4294967296):(BitVec.ofInt IntKind.u32.bits (n:Int)).toNat=n:=by
 have e:IntKind.u32.bits=32:=rfl
 rw [e,BitVec.ofInt_natCast,BitVec.toNat_ofNat]
 exact Nat.mod_eq_of_lt (by simpa using h)
theorem wN {a b:Nat} (ha:a < 4294967296) (hb:b < 4294967296):vo (a:Int) (b:Int)=((a &&& b:Nat):Int):=by
 unfold vo
 rw [BitVec.toNat_and,qR ha,qR hb,w8]
 exact Nat.lt_of_le_of_lt Nat.and_le_left ha
theorem Fj {a b:Nat} (ha:a < 4294967296) (hb:b < 4294967296):a ||| b < 4294967296:=by
 have:a ||| b < 2 ^ 32:=Nat.or_lt_two_pow (by simpa using ha) (by simpa using hb)
 simpa using this
theorem Fi {a b:Nat} (ha:a < 4294967296) (hb:b < 4294967296):Ic (a:Int) (b:Int)=((a ||| b:Nat):Int):=by
 unfold Ic
 rw [BitVec.toNat_or,qR ha,qR hb,w8 (Fj ha hb)]
theorem Pf:IntKind.u32.max=((4294967295:Nat):Int):=by decide
theorem Ij {a:Nat} (ha:a < 4294967296):Fu (a:Int)=((4294967295 ^^^ a:Nat):Int)∧4294967295 ^^^ a < 4294967296:=by
 have hl:4294967295 ^^^ a < 4294967296:=by
  have:4294967295 ^^^ a < 2 ^ 32:=Nat.xor_lt_two_pow (by decide) (by simpa using ha)
  simpa using this
 refine ⟨?_,hl⟩
 unfold Fu
 rw [Pf,BitVec.toNat_xor,qR (by decide),qR ha,w8 hl]
theorem wM {v:Nat} (h:v < 32):Co (v:Int)=((2 ^ v:Nat):Int):=by
 have hv:2 ^ v < 4294967296:=by
  have:2 ^ v < 2 ^ 32:=Nat.pow_lt_pow_right (by decide) h
  simpa using this
 unfold Co
 have e:min ((v:Int)).toNat IntKind.u32.bits=v:=by
  have:IntKind.u32.bits=32:=rfl
  rw [this]; omega
 rw [e,Int.one_mul]
 have e2:((2:Int) ^ v)=((2 ^ v:Nat):Int):=by norm_cast
 rw [e2,w8 hv]
theorem AD {m v:Nat} (hm:m < 4294967296) (hv:v < 32):qa (m:Int) v=m.testBit v:=by
 unfold qa
 have e:min v IntKind.u32.bits=v:=by
  have:IntKind.u32.bits=32:=rfl
  rw [this]; omega
 have e2:((2:Int) ^ v)=((2 ^ v:Nat):Int):=by norm_cast
 have e3:((m:Int)).fdiv ((2 ^ v:Nat):Int)=((m / 2 ^ v:Nat):Int):=by
  rw [Int.fdiv_eq_ediv_of_nonneg _ (Int.natCast_nonneg _)]; norm_cast
 rw [e,e2,e3]
 have hd:m / 2 ^ v < 4294967296:=Nat.lt_of_le_of_lt (Nat.div_le_self _ _) hm
 have:=wN hd (b:=1) (by decide)
 have this:vo ((m / 2 ^ v:Nat):Int) 1=((m / 2 ^ v &&& 1:Nat):Int):=this
 rw [this,Nat.and_one_is_mod,Nat.testBit_eq_decide_div_mod_eq]
 have h2:m / 2 ^ v % 2=0∨m / 2 ^ v % 2=1:=by omega
 rcases h2 with h2 | h2 <;> rw [h2] <;> rfl
theorem qx:∀ (c:List Int) (y n:Nat),y < 4294967296→n < 4294967296→(∀ l∈c,l≠0∧-16≤l∧l≤16) →
  ∃ y' n':Nat,c.foldl jy ⟨(y:Int),(n:Int)⟩=⟨(y':Int),(n':Int)⟩∧y' < 4294967296∧n' < 4294967296 ∧
   (∀ v,y'.testBit v=true↔y.testBit v=true∨((v:Int)+1)∈c)∧∀ v,n'.testBit v=true↔n.testBit v=true∨(-((v:Int)+1))∈c
 | [],y,n,hy,hn,_=>⟨y,n,rfl,hy,hn,by simp,by simp⟩
 | l :: c,y,n,hy,hn,h=>by
  obtain ⟨l0,l1,l2⟩:=h l (by simp)
  have hc:∀ l∈c,l≠0∧-16≤l∧l≤16:=fun x hx=>h x (by simp [hx])
  by_cases hp:l > 0
  ·obtain ⟨w,rfl⟩:∃ w:Nat,l=(w:Int)+1:=⟨(l - 1).toNat,by omega⟩
   have hw:w < 32:=by omega
   have hb:2 ^ w < 4294967296:=by
    have:2 ^ w < 2 ^ 32:=Nat.pow_lt_pow_right (by decide) hw
    simpa using this
   have e:jy ⟨(y:Int),(n:Int)⟩ ((w:Int)+1)=⟨((y ||| 2 ^ w:Nat):Int),(n:Int)⟩:=by
    unfold jy
    rw [if_pos hp,show (w:Int)+1 - 1=(w:Int) by omega,wM hw,Fi hy hb]
   rw [List.foldl_cons,e]
   obtain ⟨y',n',e1,e2,e3,e4,e5⟩:=qx c (y ||| 2 ^ w) n (Fj hy hb) hn hc
   refine ⟨y',n',e1,e2,e3,fun v=>?_,fun v=>?_⟩
   ·rw [e4 v,Nat.testBit_or,Nat.testBit_two_pow,Bool.or_eq_true,decide_eq_true_eq,List.mem_cons]
    constructor
    ·rintro ((h | h) | h)
     ·exact .inl h
     ·exact .inr (.inl (by omega))
     ·exact .inr (.inr h)
    ·rintro (h | h | h)
     ·exact .inl (.inl h)
     ·exact .inl (.inr (by omega))
     ·exact .inr h
   ·rw [e5 v,List.mem_cons]
    constructor
    ·rintro (h | h)
     ·exact .inl h
     ·exact .inr (.inr h)
    ·rintro (h | h | h)
     ·exact .inl h
     ·omega
     ·exact .inr h
  ·obtain ⟨w,rfl⟩:∃ w:Nat,l=-((w:Int)+1):=⟨(-l - 1).toNat,by omega⟩
   have hw:w < 32:=by omega
   have hb:2 ^ w < 4294967296:=by
    have:2 ^ w < 2 ^ 32:=Nat.pow_lt_pow_right (by decide) hw
    simpa using this
   have e:jy ⟨(y:Int),(n:Int)⟩ (-((w:Int)+1))=⟨(y:Int),((n ||| 2 ^ w:Nat):Int)⟩:=by
    unfold jy
    rw [if_neg hp,show - -((w:Int)+1) - 1=(w:Int) by omega,wM hw,Fi hn hb]
   rw [List.foldl_cons,e]
   obtain ⟨y',n',e1,e2,e3,e4,e5⟩:=qx c y (n ||| 2 ^ w) hy (Fj hn hb) hc
   refine ⟨y',n',e1,e2,e3,fun v=>?_,fun v=>?_⟩
   ·rw [e4 v,List.mem_cons]
    constructor
    ·rintro (h | h)
     ·exact .inl h
     ·exact .inr (.inr h)
    ·rintro (h | h | h)
     ·exact .inl h
     ·omega
     ·exact .inr h
   ·rw [e5 v,Nat.testBit_or,Nat.testBit_two_pow,Bool.or_eq_true,decide_eq_true_eq,List.mem_cons]
    constructor
    ·rintro ((h | h) | h)
     ·exact .inl h
     ·exact .inr (.inl (by omega))
     ·exact .inr (.inr h)
    ·rintro (h | h | h)
     ·exact .inl (.inl h)
     ·exact .inl (.inr (by omega))
     ·exact .inr h
theorem and_zero {a b:Nat}:a &&& b=0↔∀ v,¬ (a.testBit v=true∧b.testBit v=true):=by
 constructor
 ·intro h v ⟨h1,h2⟩
  have:(a &&& b).testBit v=true:=by rw [Nat.testBit_and,h1,h2]; rfl
  rw [h,Nat.zero_testBit] at this
  cases this
 ·intro h
  refine Nat.eq_of_testBit_eq fun v=>?_
  rw [Nat.testBit_and,Nat.zero_testBit]
  cases h1:a.testBit v with
  | false=>rfl
  | true=>cases h2:b.testBit v with
   | false=>rfl
   | true=>exact absurd ⟨h1,h2⟩ (h v)
theorem ot (m vars:Int):(bz m vars).length=vars.toNat:=by simp [bz]
theorem qk {m:Nat} {vars:Int} (hm:m < 4294967296) (hv:vars≤16) {v:Nat} (h:v < vars.toNat):gi (bz (m:Int) vars) (v:Int)=m.testBit v:=by
 unfold bz
 rw [cA _ _ (by simpa using h)]
 simp only [List.getElem_map,List.getElem_range]
 exact AD hm (by omega)
theorem vc {c:List Int} {vars:Int} {m:Nat} (hv0:0≤vars) (hv:vars≤16) (hm:m < 4294967296) (hc:∀ l∈c,l≠0∧-vars≤l∧l≤vars):bV (fo c) (m:Int)=!okC (bz (m:Int) vars) c:=by
 obtain ⟨y,n,e,hy,hn,t1,t2⟩:=qx c 0 0 (by decide) (by decide) (fun l hl=>by have:=hc l hl; omega)
 have e:fo c=⟨(y:Int),(n:Int)⟩:=e
 have hL:=ot (m:Int) vars
 have yes:∀ v:Nat,v < vars.toNat→pG (bz (m:Int) vars) ((v:Int)+1)=m.testBit v:=by
  intro v h
  rw [lp ⟨by omega,by rw [hL]; omega,by omega⟩,show (v:Int)+1 - 1=(v:Int) by omega,qk hm hv h]
 have no:∀ v:Nat,v < vars.toNat→pG (bz (m:Int) vars) (-((v:Int)+1))=!m.testBit v:=by
  intro v h
  have e:-((v:Int)+1)=jW ((v:Int)+1):=by unfold jW; rw [wrp (by omega) (by omega)]; omega
  rw [e,ln ⟨by omega,by rw [hL]; omega,by omega⟩,show (v:Int)+1 - 1=(v:Int) by omega,qk hm hv h]
 obtain ⟨n1,n2⟩:=Ij hm
 unfold bV
 rw [e]
 dsimp only
 rw [wN hm hy,n1,wN n2 hn]
 have key:okC (bz (m:Int) vars) c=true↔¬ ((m &&& y=0)∧((4294967295 ^^^ m) &&& n=0)):=by
  unfold okC cv
  rw [List.any_eq_true,and_zero,and_zero]
  constructor
  ·rintro ⟨l,hl,h⟩ ⟨h1,h2⟩
   obtain ⟨l0,l1,l2⟩:=hc l hl
   by_cases hp:l > 0
   ·obtain ⟨w,rfl⟩:∃ w:Nat,l=(w:Int)+1:=⟨(l - 1).toNat,by omega⟩
    rw [yes w (by omega)] at h
    exact h1 w ⟨h,(t1 w).2 (.inr hl)⟩
   ·obtain ⟨w,rfl⟩:∃ w:Nat,l=-((w:Int)+1):=⟨(-l - 1).toNat,by omega⟩
    rw [no w (by omega)] at h
    refine h2 w ⟨?_,(t2 w).2 (.inr hl)⟩
    have:(4294967295:Nat)=2 ^ 32 - 1:=by decide
    rw [Nat.testBit_xor,this,Nat.testBit_two_pow_sub_one,decide_eq_true (by omega:w < 32)]
    simpa using h
  ·intro h
   refine Classical.byContradiction fun hn=>h ⟨fun v ⟨h1,h2⟩=>?_,fun v ⟨h1,h2⟩=>?_⟩
   ·rcases (t1 v).1 h2 with h2 | h2
    ·simp at h2
    ·have:=hc _ h2
     exact hn ⟨_,h2,by rw [yes v (by omega)]; exact h1⟩
   ·rcases (t2 v).1 h2 with h2 | h2
    ·simp at h2
    ·have:=hc _ h2
     refine hn ⟨_,h2,?_⟩
     rw [no v (by omega)]
     have e32:(4294967295:Nat)=2 ^ 32 - 1:=by decide
     rw [Nat.testBit_xor,e32,Nat.testBit_two_pow_sub_one,decide_eq_true (by omega:v < 32)] at h1
     simpa using h1
 cases hk:okC (bz (m:Int) vars) c with
 | true =>
  have:=key.1 hk
  have e0:¬ ((((m &&& y:Nat):Int) == 0) && (((((4294967295 ^^^ m) &&& n:Nat)):Int) == 0))=true:=by
   intro h
   simp only [Bool.and_eq_true,beq_iff_eq] at h
   exact this ⟨by have:=h.1; omega,by have:=h.2; omega⟩
  simpa using e0
 | false =>
  have:(m &&& y=0)∧((4294967295 ^^^ m) &&& n=0):=Classical.byContradiction fun h=>by
   rw [key.2 h] at hk; cases hk
  rw [this.1,this.2]; rfl
theorem zL {f:aL} (h:bA f=0) {m:Nat}:m∈dt f↔m < 2 ^ f.bC.toNat∧f.ai.all (okC (bz (m:Int) f.bC))=true:=by
 obtain ⟨v0,v1,hcl⟩:=js h
 have lt:m < 2 ^ f.bC.toNat→m < 4294967296:=fun hm=>by
  have:2 ^ f.bC.toNat≤2 ^ 16:=Nat.pow_le_pow_right (by decide) (by omega)
  have:(2:Nat) ^ 16=65536:=by decide
  omega
 unfold dt aK b7
 rw [List.mem_filter,List.mem_range]
 constructor
 ·rintro ⟨h1,h2⟩
  refine ⟨h1,List.all_eq_true.2 fun c hc=>?_⟩
  have h2:(((f.ai.map fo).any fun p=>bV p (m:Int)))=false:=by simpa using h2
  rw [List.any_eq_false] at h2
  have:=h2 (fo c) (List.mem_map.2 ⟨c,hc,rfl⟩)
  rw [vc v0 v1 (lt h1) (hcl c hc).2] at this
  simpa using this
 ·rintro ⟨h1,h2⟩
  refine ⟨h1,?_⟩
  have:((f.ai.map fo).any fun p=>bV p (m:Int))=false:=by
   rw [List.any_eq_false]
   rintro p hp
   obtain ⟨c,hc,rfl⟩:=List.mem_map.1 hp
   rw [vc v0 v1 (lt h1) (hcl c hc).2,List.all_eq_true.1 h2 c hc]
   decide
  rw [this]; rfl
def toN:List Bool→Nat
 | []=>0
 | b :: r=>(if b=true then 1 else 0)+2 * toN r
theorem EP:∀ L:List Bool,toN L < 2 ^ L.length
 | []=>by simp [toN]
 | b :: r=>by
  have:=EP r
  rw [List.length_cons,Nat.pow_succ,toN]
  split <;> omega
theorem xg:∀ (L:List Bool) (v:Nat),v < L.length→(toN L).testBit v=gi L (v:Int)
 | [],v,h=>by simp at h
 | b :: r,0,h=>by
  have e:gi (b :: r) ((0:Nat):Int)=b:=kW b r
  rw [e,Nat.testBit_zero,toN]
  cases b <;> simp <;> omega
 | b :: r,v+1,h=>by
  have e:gi (b :: r) (((v+1:Nat)):Int)=gi r (v:Int):=j6 b r (by simpa using h)
  rw [e,Nat.testBit_succ,toN,show ((if b=true then 1 else 0)+2 * toN r) / 2=toN r by split <;> omega]
  exact xg r v (by simpa using h)
theorem CH {M:List Bool} {vars:Int} (hv:vars≤16) (h:M.length=vars.toNat):toN M < 2 ^ vars.toNat∧bz ((toN M:Nat):Int) vars=M:=by
 have hl:=EP M
 rw [h] at hl
 have:2 ^ vars.toNat≤2 ^ 16:=Nat.pow_le_pow_right (by decide) (by omega)
 have e16:(2:Nat) ^ 16=65536:=by decide
 refine ⟨hl,?_⟩
 have hL:=ot ((toN M:Nat):Int) vars
 refine tB (by omega) fun j hj hj2=>?_
 have e:j=((j.toNat:Nat):Int):=by omega
 rw [e,qk (by omega) hv (by omega),xg _ _ (by omega)]
end Go.Proofs.YtobeanopikjkeaaGreat
