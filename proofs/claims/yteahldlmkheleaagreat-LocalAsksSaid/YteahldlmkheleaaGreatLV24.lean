/- Lemmas. -/
import Derived.Test.YteahldlmkheleaaGreatLV23
set_option linter.all false
namespace Go.Proofs.YteahldlmkheleaaGreat
open Go Go.Sv Go.Pu
theorem zS (own:List Int) (ps:List aa):opers (ps.map (kG own))=(opers ps).map (gi own):=by
 unfold opers
 rw [List.map_map,List.map_map]; rfl
def numOf (l a:List ab) (own:List Int):Prop:=a.length=own.length∧(∀ i:Nat,i < a.length→gi a (i:Int)=gi l (gi own (i:Int))∧0≤gi own (i:Int)∧gi own (i:Int) < l.length)∧∀ i j:Nat,i < j→j < a.length→gi own (i:Int) < gi own (j:Int)
theorem BH (h:ak) (k:Int):numOf (bB h) (dm (bB h) (ofH h) k) (bo (ofH h) k):=by
 have hl:(dm (bB h) (ofH h) k).length=(bo (ofH h) k).length:=by rw [nj (gu h),List.length_map]
 exact ⟨hl,fun i hi=>tv hi,fun i j xr hj=>BI (by omega) (by omega) (by omega)⟩
theorem D1 {l a:List ab} {own:List Int} (h:numOf l a own) {i j:Int} (i0:0≤i) (i1:i < a.length) (j0:0≤j) (j1:j < a.length) (e:gi own i=gi own j):i=j:=by
 obtain ⟨n,rfl⟩:=Int.eq_ofNat_of_zero_le i0
 obtain ⟨m,rfl⟩:=Int.eq_ofNat_of_zero_le j0
 rcases Nat.lt_trichotomy n m with hl | hl | hl
 ·have:=h.2.2 n m hl (by omega); omega
 ·rw [hl]
 ·have:=h.2.2 m n hl (by omega); omega
theorem BU {x:Int} {ps:List aa}:x∈opers ps↔∃ p∈ps,p.Oper=x:=by
 unfold opers; exact List.mem_map
theorem qy (ps:List aa) (t:Nat):opers (ps.take t)=(opers ps).take t:=by
 unfold opers; rw [List.map_take]
theorem jK (ps:List aa):(opers ps).length=ps.length:=by
 unfold opers; rw [List.length_map]
theorem qz {ps:List aa} {y:Nat} (hy:y < ps.length):gi (opers ps) (y:Int)=(gi ps (y:Int)).Oper:=by
 unfold opers; exact kW (fun p:aa=>p.Oper) (by omega) (by omega)
theorem qJ {l:List Int} {x:Int} {t:Nat}:x∈l.take t↔∃ j:Nat,j < t∧j < l.length∧gi l (j:Int)=x:=by
 constructor
 ·intro hx
  obtain ⟨j,hj,rfl⟩:=List.getElem_of_mem hx
  rw [List.length_take] at hj
  exact ⟨j,by omega,by omega,by rw [cN _ _ (by omega)]; simp⟩
 ·rintro ⟨j,h1,h2,rfl⟩
  rw [cN _ _ h2]
  have:(l.take t)[j]'(by rw [List.length_take]; omega)=l[j]:=by simp
  rw [← this]
  exact List.getElem_mem _
theorem BK {l:List Int} (h:l.Nodup) {i j:Nat} (hi:i < l.length) (hj:j < l.length) (e:gi l (i:Int)=gi l (j:Int)):i=j:=by
 rw [cN _ _ hi,cN _ _ hj] at e
 rcases Nat.lt_trichotomy i j with hl | hl | hl
 ·exact absurd e (List.pairwise_iff_getElem.1 h i j hi hj hl)
 ·exact hl
 ·exact absurd e.symm (List.pairwise_iff_getElem.1 h j i hj hi hl)
theorem zh {o:ae} {a:List ab} {ps:List aa} (hw:c9 o a ps=true) {y k:Nat} (hy:y < ps.length) (hk:k < a.length) (ha:aZ (gi a (k:Int)) (gi a (gi ps (y:Int)).Oper)=true):(k:Int)∈opers (ps.take y):=by
 obtain ⟨_,_,w3,w4,_⟩:=oO.1 hw
 have mt:=(ln w3).2 _ (lq (e7 (l:=ps) (i:=(y:Int)) (by omega) (by omega)))
 refine Classical.byContradiction (fun hn=>?_)
 have:=re mt hk ha hn
 rw [w4 y hy] at this; cases this
theorem zQ {l:List ab} {p:List aa}:decide (cA l p < 0)=true↔∀ y:Nat,y < p.length→dP l p y=false:=by
 rw [decide_eq_true_eq]
 constructor
 ·intro hh; exact sf (by omega)
 ·intro hh; rw [qw hh]; omega
theorem wV {p:List aa} {k:Int} {y:Nat} (hy:y≤p.length):(decide (aX p k < 0) || decide (aX p k≥y))=!decide (k∈opers (p.take y)):=by
 rw [qy]
 rcases iX p k with ⟨h1,h2⟩ | ⟨j,h1,h2,h3,h4⟩
 ·rw [h1,decide_eq_true (by omega),Bool.true_or,decide_eq_false (fun hh=>h2 (List.mem_of_mem_take hh))]; rfl
 ·rw [h2,decide_eq_false (show ¬ ((j:Int) < 0) by omega),Bool.false_or]
  by_cases e:j < y
  ·rw [decide_eq_false (by omega),decide_eq_true (qJ.2 ⟨j,e,by rw [jK]; exact h1,by rw [qz h1]; exact h3⟩)]; rfl
  ·rw [decide_eq_true (by omega),decide_eq_false]
   ·rfl
   ·rintro hh
    obtain ⟨i,i1,i2,i3⟩:=qJ.1 hh
    rw [jK] at i2
    rw [qz i2] at i3
    exact h4 i (by omega) i3
theorem yq {l:List ab} {p:List aa} {y:Nat} (hy:y < p.length):pb l p y=dP l p y:=by
 unfold pb dP
 congr 1
 congr 1
 funext k
 rw [wV (by omega)]
theorem wH {l:List ab} {p:List aa}:decide (eB l p < 0)=true↔∀ y:Nat,y < p.length→dP l p y=false:=by
 rw [decide_eq_true_eq]
 unfold eB
 cases e:(List.range p.length).find? (pb l p) with
 | none =>
  rw [List.find?_eq_none] at e
  refine ⟨fun _ y hy=>?_,fun _=>by dsimp only; omega⟩
  have:=e y (List.mem_range.2 hy)
  rw [yq hy] at this
  simpa using this
 | some x =>
  have h1:=List.mem_range.1 (List.mem_of_find?_eq_some e)
  have h2:=List.find?_some e
  rw [yq h1] at h2
  refine ⟨fun hh=>absurd hh (by dsimp only; omega),fun hh=>?_⟩
  rw [hh x h1] at h2; cases h2
theorem Ax (l:List ab) (p:List aa):eL l p false=b7 l p:=by
 unfold eL b7 en gv
 congr 1
 congr 1
 funext i
 unfold pn kM
 rw [Bool.and_comm]
 congr 1
 by_cases e:(i:Int)∈opers p
 ·rw [decide_eq_true e]
  have:=ll.2 e
  rw [decide_eq_false (by omega)]; rfl
 ·rw [decide_eq_false e]
  have:¬ aX p (i:Int)≥0:=fun hh=>e (ll.1 hh)
  rw [decide_eq_true (by omega)]; rfl
def pQ (h:ak) (p:List aa):Prop:=(∀ q∈p,0≤q.Oper∧q.Oper < (bB h).length)∧(∀ k:Nat,k < h.ah.length→(cg (gi h.ah (k:Int)) (bB h) (nb (ofH h) (k:Int) p)).2.2=0)∧(∀ y:Nat,y < p.length→dP (bB h) p y=false)∧∀ m,m∉b7 (bB h) p
theorem E6 {l:List ab} {of:List Int} {p:List aa} (hi:∀ q∈p,0≤q.Oper∧q.Oper < l.length) (k:Int):rB l of k p=nb of k p:=by
 unfold rB nb
 refine List.filter_congr (fun q hq=>?_)
 have:=hi q hq
 rw [decide_eq_false (by omega),Bool.false_or]
theorem uB {l:List ab} {of:List Int} {p:List aa} {os:List ae}:∀ (n t:Nat),t+n=os.length→(iv l of p (os.drop t) (t:Int)=true↔∀ k:Nat,t≤k→k < os.length→(cg (gi os (k:Int)) l (rB l of (k:Int) p)).2.2=0)
 | 0,t,ht=>by
  have:t=os.length:=by omega
  subst this
  rw [List.drop_length,iv]
  exact ⟨fun _ k h1 h2=>by omega,fun _=>rfl⟩
 | n+1,t,ht=>by
  rw [rS (by omega)]
  have ih:=uB (l:=l) (of:=of) (p:=p) (os:=os) n (t+1) (by omega)
  push_cast at ih
  by_cases e:(cg (gi os (t:Int)) l (rB l of (t:Int) p)).2.2=0
  ·rw [if_neg (by omega),ih]
   refine ⟨fun hh k h1 h2=>?_,fun hh k h1 h2=>hh k (by omega) h2⟩
   by_cases ek:k=t
   ·subst ek; exact e
   ·exact hh k (by omega) h2
  ·rw [if_pos e]
   exact ⟨(fun hh=>by cases hh),fun hh=>absurd (hh t (by omega) (by omega)) e⟩
theorem rT {l:List ab} {of:List Int} {p:List aa} {os:List ae}:∀ (n t:Nat),t+n=os.length→(lY l of p (os.drop t) (t:Int)=true↔∀ k:Nat,t≤k→k < os.length→(cg (gi os (k:Int)) l (nb of (k:Int) p)).2.2=0)
 | 0,t,ht=>by
  have:t=os.length:=by omega
  subst this
  rw [List.drop_length,lY]
  exact ⟨fun _ k h1 h2=>by omega,fun _=>rfl⟩
 | n+1,t,ht=>by
  rw [qe (by omega)]
  have ih:=rT (l:=l) (of:=of) (p:=p) (os:=os) n (t+1) (by omega)
  push_cast at ih
  have hd:bL (gi os (t:Int)) l (gi os (t:Int)).aC (nb of (t:Int) p)=cg (gi os (t:Int)) l (nb of (t:Int) p):=rfl
  rw [hd]
  by_cases e:(cg (gi os (t:Int)) l (nb of (t:Int) p)).2.2=0
  ·rw [if_neg (by omega),ih]
   refine ⟨fun hh k h1 h2=>?_,fun hh k h1 h2=>hh k (by omega) h2⟩
   by_cases ek:k=t
   ·subst ek; exact e
   ·exact hh k (by omega) h2
  ·rw [if_pos e]
   exact ⟨(fun hh=>by cases hh),fun hh=>absurd (hh t (by omega) (by omega)) e⟩
theorem u4 {l:List Int}:(l.length == 0)=true↔∀ m,m∉l:=by
 rw [beq_iff_eq,List.length_eq_zero_iff,List.eq_nil_iff_forall_not_mem]
theorem z9 {h:ak} (hc:(aB h).2=0) (p:List aa):dT h p=true↔pQ h p:=by
 unfold dT pQ
 rw [if_neg (by omega),Bool.and_eq_true,Bool.and_eq_true,zQ,u4]
 have h0:=uB (l:=bB h) (of:=ofH h) (p:=p) (os:=h.ah) h.ah.length 0 (by omega)
 rw [List.drop_zero] at h0
 have h0:iv (bB h) (ofH h) p h.ah 0=true↔_:=h0
 rw [h0]
 have Mh:=qB hc
 constructor
 ·rintro ⟨⟨h1,h2⟩,h3⟩
  have mt:∀ q∈p,0≤q.Oper∧q.Oper < (bB h).length:=fun q hq=>by
   refine Classical.byContradiction (fun hn=>?_)
   have hm:q∈rB (bB h) (ofH h) ((0:Nat):Int) p:=by
    unfold rB
    rw [List.mem_filter]
    exact ⟨hq,by rw [decide_eq_true (by omega),Bool.true_or]⟩
   exact hn ((ln (h1 0 (by omega) (by omega))).2 _ (lq hm))
  exact ⟨mt,fun k hk=>by rw [← E6 mt]; exact h1 k (by omega) hk,h2,h3⟩
 ·rintro ⟨mt,h1,h2,h3⟩
  exact ⟨⟨fun k _ hk=>by rw [E6 mt]; exact h1 k hk,h2⟩,h3⟩
theorem wI {h:ak} (hc:(aB h).2=0) {l:List az} (hl:l.map toL=h.al) (p:List aa):fc h.ah l p=true↔pQ h p:=by
 have hh:(⟨h.ah,l.map toL⟩:ak)=h:=by rw [hl]
 have gF:(cc h.ah l).2=0:=by unfold cc; rw [hh]; exact hc
 unfold fc pQ
 rw [if_neg (by omega),rV gF,hh]
 dsimp only
 have h0:=rT (l:=bB h) (of:=ofH h) (p:=p) (os:=h.ah) h.ah.length 0 (by omega)
 rw [List.drop_zero] at h0
 have h0:lY (bB h) (ofH h) p h.ah 0=true↔_:=h0
 by_cases ha:p.any (fun q=>decide (q.Oper < 0∨q.Oper≥(bB h).length))=true
 ·rw [if_pos ha]
  obtain ⟨q,hq,hd⟩:=List.any_eq_true.1 ha
  rw [decide_eq_true_eq] at hd
  refine ⟨(fun hh=>by cases hh),fun hh=>?_⟩
  have:=hh.1 q hq
  omega
 ·rw [if_neg ha,Bool.and_eq_true,Bool.and_eq_true,wH,Ax,u4,h0]
  have mt:∀ q∈p,0≤q.Oper∧q.Oper < (bB h).length:=fun q hq=>by
   rw [Bool.not_eq_true,List.any_eq_false] at ha
   have:=ha q hq
   rw [decide_eq_true_eq] at this
   omega
  exact ⟨fun ⟨⟨a,b⟩,c⟩=>⟨mt,fun k hk=>a k (by omega) hk,b,c⟩,fun ⟨_,a,b,c⟩=>⟨⟨fun k _ hk=>a k hk,b⟩,c⟩⟩
end Go.Proofs.YteahldlmkheleaaGreat
