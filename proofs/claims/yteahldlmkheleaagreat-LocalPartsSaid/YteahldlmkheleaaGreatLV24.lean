/- Ns by the Fd numbers,and by those of the whole. -/
import Derived.Test.YteahldlmkheleaaGreatLV23
set_option linter.all false
namespace Go.Proofs.YteahldlmkheleaaGreat
open Go Go.Sv Go.Pu
theorem rE (own:List Int) (ps:List aa):opers (ps.map (fR own))=(opers ps).map (gi own):=by
 unfold opers
 rw [List.map_map,List.map_map]; rfl
def numOf (l a:List ab) (own:List Int):Prop:=a.length=own.length∧(∀ i:Nat,i < a.length→gi a (i:Int)=gi l (gi own (i:Int))∧0≤gi own (i:Int)∧gi own (i:Int) < l.length)∧∀ i j:Nat,i < j→j < a.length→gi own (i:Int) < gi own (j:Int)
theorem p9 (h:ak) (k:Int):numOf (bp h) (dp (bp h) (ofH h) k) (aP (ofH h) k):=by
 have hl:(dp (bp h) (ofH h) k).length=(aP (ofH h) k).length:=by rw [lL (eA h),List.length_map]
 exact ⟨hl,fun i hi=>sE hi,fun i j wq hj=>AH (by omega) (by omega) (by omega)⟩
theorem sM {l a:List ab} {own:List Int} (h:numOf l a own) {i j:Int} (i0:0≤i) (i1:i < a.length) (j0:0≤j) (j1:j < a.length) (e:gi own i=gi own j):i=j:=by
 obtain ⟨n,rfl⟩:=Int.eq_ofNat_of_zero_le i0
 obtain ⟨m,rfl⟩:=Int.eq_ofNat_of_zero_le j0
 rcases Nat.lt_trichotomy n m with hl | hl | hl
 ·have:=h.2.2 n m hl (by omega); omega
 ·rw [hl]
 ·have:=h.2.2 m n hl (by omega); omega
theorem vF {o:ah} {l a:List ab} {own:List Int} (h:numOf l a own) {p:aa} (h0:0≤p.Oper) (h1:p.Oper < a.length) {prev:List Int} (hp:∀ x∈prev,0≤x∧x < a.length) (s:Int):di o l (prev.map (gi own)) s (fR own p)=di o a prev s p:=by
 unfold di
 obtain ⟨n,hn⟩:=Int.eq_ofNat_of_zero_le h0
 obtain ⟨e1,e2,e3⟩:=h.2.1 n (by omega)
 have er:(fR own p).Oper=gi own p.Oper:=rfl
 have es:(fR own p).Result=p.Result:=rfl
 rw [if_neg (by rw [er,hn]; omega),if_neg (show ¬ (p.Oper < 0∨p.Oper≥a.length) by omega)]
 have hm:(fR own p).Oper∈prev.map (gi own)↔p.Oper∈prev:=by
  rw [er,List.mem_map]
  constructor
  ·rintro ⟨x,hx,e⟩
   have Db:=hp x hx
   rw [← sM h Db.1 Db.2 h0 h1 e]; exact hx
  ·intro hx; exact ⟨_,hx,rfl⟩
 have ht:gf o l s (fR own p)=gf o a s p:=by
  unfold gf fV
  rw [er,es,hn,e1]
 by_cases hx:p.Oper∈prev
 ·rw [if_pos (hm.2 hx),if_pos hx]
 ·rw [if_neg (fun hh=>hx (hm.1 hh)),if_neg hx,ht]
theorem rh {o:ah} {l a:List ab} {own:List Int} (h:numOf l a own):∀ (ps:List aa) (prev:List Int) (s:Int),(∀ p∈ps,0≤p.Oper∧p.Oper < a.length)→(∀ x∈prev,0≤x∧x < a.length)→gT o l (prev.map (gi own)) s (ps.map (fR own))=gT o a prev s ps
 | [],_,_,_,_=>rfl
 | p :: ps,prev,s,hi,hp=>by
  have K7:=hi p (List.mem_cons_self ..)
  have jI:=vF (o:=o) h K7.1 K7.2 hp s
  have ih:=rh (o:=o) h ps (p.Oper :: prev) (di o a prev s p).1 (fun q hq=>hi q (List.mem_cons_of_mem _ hq)) (fun x hx=>by
   rcases List.mem_cons.1 hx with rfl | hx
   ·exact K7
   ·exact hp x hx)
  rw [List.map_cons] at ih
  have er:(fR own p).Oper=gi own p.Oper:=rfl
  rw [List.map_cons,gT,gT,jI,er,ih]
theorem oF {o:ah} {l a:List ab} {own:List Int} (h:numOf l a own) {ps:List aa} (hi:∀ p∈ps,0≤p.Oper∧p.Oper < a.length):cC o l (ps.map (fR own))=cC o a ps:=by
 unfold cC cN
 have:=rh (o:=o) h ps [] o.aE hi (fun x hx=>by cases hx)
 rw [List.map_nil] at this
 rw [this]
theorem ny {x:Int} {ps:List aa}:x∈opers ps↔∃ p∈ps,p.Oper=x:=by
 unfold opers; exact List.mem_map
theorem mK (ps:List aa) (t:Nat):opers (ps.take t)=(opers ps).take t:=by
 unfold opers; rw [List.map_take]
theorem gg (ps:List aa):(opers ps).length=ps.length:=by
 unfold opers; rw [List.length_map]
theorem kF {ps:List aa} {y:Nat} (hy:y < ps.length):gi (opers ps) (y:Int)=(gi ps (y:Int)).Oper:=by
 unfold opers; exact kp (fun p:aa=>p.Oper) (by omega) (by omega)
theorem ns {l:List Int} {x:Int} {t:Nat}:x∈l.take t↔∃ j:Nat,j < t∧j < l.length∧gi l (j:Int)=x:=by
 constructor
 ·intro hx
  obtain ⟨j,hj,rfl⟩:=List.getElem_of_mem hx
  rw [List.length_take] at hj
  exact ⟨j,by omega,by omega,by rw [bS _ _ (by omega)]; simp⟩
 ·rintro ⟨j,h1,h2,rfl⟩
  rw [bS _ _ h2]
  have:(l.take t)[j]'(by rw [List.length_take]; omega)=l[j]:=by simp
  rw [← this]
  exact List.getElem_mem _
theorem qd {l:List Int} (h:l.Nodup) {i j:Nat} (hi:i < l.length) (hj:j < l.length) (e:gi l (i:Int)=gi l (j:Int)):i=j:=by
 rw [bS _ _ hi,bS _ _ hj] at e
 rcases Nat.lt_trichotomy i j with hl | hl | hl
 ·exact absurd e (List.pairwise_iff_getElem.1 h i j hi hj hl)
 ·exact hl
 ·exact absurd e.symm (List.pairwise_iff_getElem.1 h j i hj hi hl)
theorem yd {o:ah} {a:List ab} {ps:List aa} (hw:dh o a ps=true) {y k:Nat} (hy:y < ps.length) (hk:k < a.length) (ha:bh (gi a (k:Int)) (gi a (gi ps (y:Int)).Oper)=true):(k:Int)∈opers (ps.take y):=by
 obtain ⟨_,_,w3,w4,_⟩:=n8.1 hw
 have hin:=(pX w3).2 _ (nv (dq (l:=ps) (i:=(y:Int)) (by omega) (by omega)))
 refine Classical.byContradiction (fun hn=>?_)
 have:=ti hin hk ha hn
 rw [w4 y hy] at this; cases this
theorem ye {o:ah} {a:List ab} {ps:List aa} (hw:dh o a ps=true) {k:Nat} (hk:k < a.length) (he:(gi a (k:Int)).End≠-1):(k:Int)∈opers ps:=by
 obtain ⟨_,_,_,_,w5⟩:=n8.1 hw
 refine Classical.byContradiction (fun hn=>?_)
 exact w5 _ (hU.2 ⟨by omega,by omega,he,hn⟩)
theorem vW {p:List aa} {k:Int} {y:Nat} (hy:y≤p.length):(decide (cc p k < 0) || decide (cc p k≥y))=!decide (k∈opers (p.take y)):=by
 rw [mK]
 rcases pW p k with ⟨h1,h2⟩ | ⟨j,h1,h2,h3,h4⟩
 ·rw [h1,decide_eq_true (by omega),Bool.true_or,decide_eq_false (fun hh=>h2 (List.mem_of_mem_take hh))]; rfl
 ·rw [h2,decide_eq_false (show ¬ ((j:Int) < 0) by omega),Bool.false_or]
  by_cases e:j < y
  ·rw [decide_eq_false (by omega),decide_eq_true (ns.2 ⟨j,e,by rw [gg]; exact h1,by rw [kF h1]; exact h3⟩)]; rfl
  ·rw [decide_eq_true (by omega),decide_eq_false]
   ·rfl
   ·rintro hh
    obtain ⟨i,i1,i2,i3⟩:=ns.1 hh
    rw [gg] at i2
    rw [kF i2] at i3
    exact h4 i (by omega) i3
theorem xq {l:List ab} {p:List aa} {y:Nat} (hy:y < p.length):oG l p y=ec l p y:=by
 unfold oG ec
 congr 1
 congr 1
 funext k
 rw [vW (by omega)]
theorem vM {l:List ab} {p:List aa}:decide (ep l p < 0)=true↔∀ y:Nat,y < p.length→ec l p y=false:=by
 rw [decide_eq_true_eq]
 unfold ep
 cases e:(List.range p.length).find? (oG l p) with
 | none =>
  rw [List.find?_eq_none] at e
  refine ⟨fun _ y hy=>?_,fun _=>by dsimp only; omega⟩
  have:=e y (List.mem_range.2 hy)
  rw [xq hy] at this
  simpa using this
 | some x =>
  have h1:=List.mem_range.1 (List.mem_of_find?_eq_some e)
  have h2:=List.find?_some e
  rw [xq h1] at h2
  refine ⟨fun hh=>absurd hh (by dsimp only; omega),fun hh=>?_⟩
  rw [hh x h1] at h2; cases h2
theorem zA (l:List ab) (p:List aa):eF l p false=bZ l p:=by
 unfold eF bZ dY gk
 congr 1
 congr 1
 funext i
 unfold oQ kb
 rw [Bool.and_comm]
 congr 1
 by_cases e:(i:Int)∈opers p
 ·rw [decide_eq_true e]
  have:=ry.2 e
  rw [decide_eq_false (by omega)]; rfl
 ·rw [decide_eq_false e]
  have:¬ cc p (i:Int)≥0:=fun hh=>e (ry.1 hh)
  rw [decide_eq_true (by omega)]; rfl
def k4 (h:ak) (p:List aa):Prop:=(∀ q∈p,0≤q.Oper∧q.Oper < (bp h).length)∧(∀ k:Nat,k < h.ae.length→(cC (gi h.ae (k:Int)) (bp h) (gv (ofH h) (k:Int) p)).2.2=0)∧(∀ y:Nat,y < p.length→ec (bp h) p y=false)∧∀ m,m∉bZ (bp h) p
theorem ri {l:List ab} {of:List Int} {p:List aa} {os:List ah}:∀ (n t:Nat),t+n=os.length→(lp l of p (os.drop t) (t:Int)=true↔∀ k:Nat,t≤k→k < os.length→(cC (gi os (k:Int)) l (gv of (k:Int) p)).2.2=0)
 | 0,t,ht=>by
  have:t=os.length:=by omega
  subst this
  rw [List.drop_length,lp]
  exact ⟨fun _ k h1 h2=>by omega,fun _=>rfl⟩
 | n+1,t,ht=>by
  rw [pL (by omega)]
  have ih:=ri (l:=l) (of:=of) (p:=p) (os:=os) n (t+1) (by omega)
  push_cast at ih
  have hd:cN (gi os (t:Int)) l (gi os (t:Int)).aE (gv of (t:Int) p)=cC (gi os (t:Int)) l (gv of (t:Int) p):=rfl
  rw [hd]
  by_cases e:(cC (gi os (t:Int)) l (gv of (t:Int) p)).2.2=0
  ·rw [if_neg (by omega),ih]
   refine ⟨fun hh k h1 h2=>?_,fun hh k h1 h2=>hh k (by omega) h2⟩
   by_cases ek:k=t
   ·subst ek; exact e
   ·exact hh k (by omega) h2
  ·rw [if_pos e]
   exact ⟨(fun hh=>by cases hh),fun hh=>absurd (hh t (by omega) (by omega)) e⟩
theorem AW {l:List Int}:(l.length == 0)=true↔∀ m,m∉l:=by
 rw [beq_iff_eq,List.length_eq_zero_iff,List.eq_nil_iff_forall_not_mem]
theorem pO {h:ak} (hc:(aB h).2=0) {l:List aD} (hl:l.map toL=h.ao) (p:List aa):dW h.ae l p=true↔k4 h p:=by
 have hh:(⟨h.ae,l.map toL⟩:ak)=h:=by rw [hl]
 have gp:(dz h.ae l).2=0:=by unfold dz; rw [hh]; exact hc
 unfold dW k4
 rw [if_neg (by omega),rk gp,hh]
 dsimp only
 have h0:=ri (l:=bp h) (of:=ofH h) (p:=p) (os:=h.ae) h.ae.length 0 (by omega)
 rw [List.drop_zero] at h0
 have h0:lp (bp h) (ofH h) p h.ae 0=true↔_:=h0
 by_cases ha:p.any (fun q=>decide (q.Oper < 0∨q.Oper≥(bp h).length))=true
 ·rw [if_pos ha]
  obtain ⟨q,hq,hd⟩:=List.any_eq_true.1 ha
  rw [decide_eq_true_eq] at hd
  refine ⟨(fun hh=>by cases hh),fun hh=>?_⟩
  have:=hh.1 q hq
  omega
 ·rw [if_neg ha,Bool.and_eq_true,Bool.and_eq_true,vM,zA,AW,h0]
  have hin:∀ q∈p,0≤q.Oper∧q.Oper < (bp h).length:=fun q hq=>by
   rw [Bool.not_eq_true,List.any_eq_false] at ha
   have:=ha q hq
   rw [decide_eq_true_eq] at this
   omega
  exact ⟨fun ⟨⟨a,b⟩,c⟩=>⟨hin,fun k hk=>a k (by omega) hk,b,c⟩,fun ⟨_,a,b,c⟩=>⟨⟨fun k _ hk=>a k hk,b⟩,c⟩⟩
end Go.Proofs.YteahldlmkheleaaGreat
