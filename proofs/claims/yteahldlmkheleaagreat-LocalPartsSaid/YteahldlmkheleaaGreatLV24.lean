/- Picks by the part's numbers, and by those of the whole. -/
import Derived.Test.YteahldlmkheleaaGreatLV23
set_option linter.all false
namespace Go.Proofs.YteahldlmkheleaaGreat
open Go Go.Sv Go.Pu
theorem sI (own:List Int) (ps:List aa):opers (ps.map (gm own))=(opers ps).map (gi own):=by
 unfold opers
 rw [List.map_map,List.map_map]; rfl
def numOf (l a:List ab) (own:List Int):Prop:=a.length=own.length∧(∀ i:Nat,i < a.length→gi a (i:Int)=gi l (gi own (i:Int))∧0≤gi own (i:Int)∧gi own (i:Int) < l.length)∧∀ i j:Nat,i < j→j < a.length→gi own (i:Int) < gi own (j:Int)
theorem qX (h:al) (k:Int):numOf (bz h) (dA (bz h) (ofH h) k) (aS (ofH h) k):=by
 have hl:(dA (bz h) (ofH h) k).length=(aS (ofH h) k).length:=by rw [my (eR h),List.length_map]
 exact ⟨hl,fun i hi=>tN hi,fun i j xK hj=>BV (by omega) (by omega) (by omega)⟩
theorem tT {l a:List ab} {own:List Int} (h:numOf l a own) {i j:Int} (i0:0≤i) (i1:i < a.length) (j0:0≤j) (j1:j < a.length) (e:gi own i=gi own j):i=j:=by
 obtain ⟨n,rfl⟩:=Int.eq_ofNat_of_zero_le i0
 obtain ⟨m,rfl⟩:=Int.eq_ofNat_of_zero_le j0
 rcases Nat.lt_trichotomy n m with hl | hl | hl
 ·have:=h.2.2 n m hl (by omega); omega
 ·rw [hl]
 ·have:=h.2.2 m n hl (by omega); omega
theorem wY {o:aj} {l a:List ab} {own:List Int} (h:numOf l a own) {p:aa} (h0:0≤p.Oper) (h1:p.Oper < a.length) {prev:List Int} (hp:∀ x∈prev,0≤x∧x < a.length) (s:Int):du o l (prev.map (gi own)) s (gm own p)=du o a prev s p:=by
 unfold du
 obtain ⟨n,hn⟩:=Int.eq_ofNat_of_zero_le h0
 obtain ⟨e1,e2,e3⟩:=h.2.1 n (by omega)
 have er:(gm own p).Oper=gi own p.Oper:=rfl
 have es:(gm own p).Result=p.Result:=rfl
 rw [if_neg (by rw [er,hn]; omega),if_neg (show ¬ (p.Oper < 0∨p.Oper≥a.length) by omega)]
 have hm:(gm own p).Oper∈prev.map (gi own)↔p.Oper∈prev:=by
  rw [er,List.mem_map]
  constructor
  ·rintro ⟨x,hx,e⟩
   have Ep:=hp x hx
   rw [← tT h Ep.1 Ep.2 h0 h1 e]; exact hx
  ·intro hx; exact ⟨_,hx,rfl⟩
 have ht:gB o l s (gm own p)=gB o a s p:=by
  unfold gB gr
  rw [er,es,hn,e1]
 by_cases hx:p.Oper∈prev
 ·rw [if_pos (hm.2 hx),if_pos hx]
 ·rw [if_neg (fun hh=>hx (hm.1 hh)),if_neg hx,ht]
theorem si {o:aj} {l a:List ab} {own:List Int} (h:numOf l a own):∀ (ps:List aa) (prev:List Int) (s:Int),(∀ p∈ps,0≤p.Oper∧p.Oper < a.length)→(∀ x∈prev,0≤x∧x < a.length)→il o l (prev.map (gi own)) s (ps.map (gm own))=il o a prev s ps
 | [],_,_,_,_=>rfl
 | p :: ps,prev,s,hi,hp=>by
  have Mw:=hi p (List.mem_cons_self ..)
  have kp:=wY (o:=o) h Mw.1 Mw.2 hp s
  have ih:=si (o:=o) h ps (p.Oper :: prev) (du o a prev s p).1 (fun q hq=>hi q (List.mem_cons_of_mem _ hq)) (fun x hx=>by
   rcases List.mem_cons.1 hx with rfl | hx
   ·exact Mw
   ·exact hp x hx)
  rw [List.map_cons] at ih
  have er:(gm own p).Oper=gi own p.Oper:=rfl
  rw [List.map_cons,il,il,kp,er,ih]
theorem pD {o:aj} {l a:List ab} {own:List Int} (h:numOf l a own) {ps:List aa} (hi:∀ p∈ps,0≤p.Oper∧p.Oper < a.length):cS o l (ps.map (gm own))=cS o a ps:=by
 unfold cS c6
 have:=si (o:=o) h ps [] o.aH hi (fun x hx=>by cases hx)
 rw [List.map_nil] at this
 rw [this]
theorem oq {x:Int} {ps:List aa}:x∈opers ps↔∃ p∈ps,p.Oper=x:=by
 unfold opers; exact List.mem_map
theorem nF (ps:List aa) (t:Nat):opers (ps.take t)=(opers ps).take t:=by
 unfold opers; rw [List.map_take]
theorem gD (ps:List aa):(opers ps).length=ps.length:=by
 unfold opers; rw [List.length_map]
theorem lr {ps:List aa} {y:Nat} (hy:y < ps.length):gi (opers ps) (y:Int)=(gi ps (y:Int)).Oper:=by
 unfold opers; exact ld (fun p:aa=>p.Oper) (by omega) (by omega)
theorem og {l:List Int} {x:Int} {t:Nat}:x∈l.take t↔∃ j:Nat,j < t∧j < l.length∧gi l (j:Int)=x:=by
 constructor
 ·intro hx
  obtain ⟨j,hj,rfl⟩:=List.getElem_of_mem hx
  rw [List.length_take] at hj
  exact ⟨j,by omega,by omega,by rw [bZ _ _ (by omega)]; simp⟩
 ·rintro ⟨j,h1,h2,rfl⟩
  rw [bZ _ _ h2]
  have:(l.take t)[j]'(by rw [List.length_take]; omega)=l[j]:=by simp
  rw [← this]
  exact List.getElem_mem _
theorem q6 {l:List Int} (h:l.Nodup) {i j:Nat} (hi:i < l.length) (hj:j < l.length) (e:gi l (i:Int)=gi l (j:Int)):i=j:=by
 rw [bZ _ _ hi,bZ _ _ hj] at e
 rcases Nat.lt_trichotomy i j with hl | hl | hl
 ·exact absurd e (List.pairwise_iff_getElem.1 h i j hi hj hl)
 ·exact hl
 ·exact absurd e.symm (List.pairwise_iff_getElem.1 h j i hj hi hl)
theorem zD {o:aj} {a:List ab} {ps:List aa} (hw:dt o a ps=true) {y k:Nat} (hy:y < ps.length) (hk:k < a.length) (ha:bl (gi a (k:Int)) (gi a (gi ps (y:Int)).Oper)=true):(k:Int)∈opers (ps.take y):=by
 obtain ⟨_,_,w3,w4,_⟩:=o4.1 hw
 have hin:=(qN w3).2 _ (oo (dB (l:=ps) (i:=(y:Int)) (by omega) (by omega)))
 refine Classical.byContradiction (fun hn=>?_)
 have:=uu hin hk ha hn
 rw [w4 y hy] at this; cases this
theorem zE {o:aj} {a:List ab} {ps:List aa} (hw:dt o a ps=true) {k:Nat} (hk:k < a.length) (he:(gi a (k:Int)).End≠-1):(k:Int)∈opers ps:=by
 obtain ⟨_,_,_,_,w5⟩:=o4.1 hw
 refine Classical.byContradiction (fun hn=>?_)
 exact w5 _ (iD.2 ⟨by omega,by omega,he,hn⟩)
theorem xm {p:List aa} {k:Int} {y:Nat} (hy:y≤p.length):(decide (cn p k < 0) || decide (cn p k≥y))=!decide (k∈opers (p.take y)):=by
 rw [nF]
 rcases qM p k with ⟨h1,h2⟩ | ⟨j,h1,h2,h3,h4⟩
 ·rw [h1,decide_eq_true (by omega),Bool.true_or,decide_eq_false (fun hh=>h2 (List.mem_of_mem_take hh))]; rfl
 ·rw [h2,decide_eq_false (show ¬ ((j:Int) < 0) by omega),Bool.false_or]
  by_cases e:j < y
  ·rw [decide_eq_false (by omega),decide_eq_true (og.2 ⟨j,e,by rw [gD]; exact h1,by rw [lr h1]; exact h3⟩)]; rfl
  ·rw [decide_eq_true (by omega),decide_eq_false]
   ·rfl
   ·rintro hh
    obtain ⟨i,i1,i2,i3⟩:=og.1 hh
    rw [gD] at i2
    rw [lr i2] at i3
    exact h4 i (by omega) i3
theorem yJ {l:List ab} {p:List aa} {y:Nat} (hy:y < p.length):pE l p y=eF l p y:=by
 unfold pE eF
 congr 1
 congr 1
 funext k
 rw [xm (by omega)]
theorem xc {l:List ab} {p:List aa}:decide (eK l p < 0)=true↔∀ y:Nat,y < p.length→eF l p y=false:=by
 rw [decide_eq_true_eq]
 unfold eK
 cases e:(List.range p.length).find? (pE l p) with
 | none =>
  rw [List.find?_eq_none] at e
  refine ⟨fun _ y hy=>?_,fun _=>by dsimp only; omega⟩
  have:=e y (List.mem_range.2 hy)
  rw [yJ hy] at this
  simpa using this
 | some x =>
  have h1:=List.mem_range.1 (List.mem_of_find?_eq_some e)
  have h2:=List.find?_some e
  rw [yJ h1] at h2
  refine ⟨fun hh=>absurd hh (by dsimp only; omega),fun hh=>?_⟩
  rw [hh x h1] at h2; cases h2
theorem AO (l:List ab) (p:List aa):eW l p false=b9 l p:=by
 unfold eW b9 eC gK
 congr 1
 congr 1
 funext i
 unfold pN kU
 rw [Bool.and_comm]
 congr 1
 by_cases e:(i:Int)∈opers p
 ·rw [decide_eq_true e]
  have:=sB.2 e
  rw [decide_eq_false (by omega)]; rfl
 ·rw [decide_eq_false e]
  have:¬ cn p (i:Int)≥0:=fun hh=>e (sB.1 hh)
  rw [decide_eq_true (by omega)]; rfl
def lP (h:al) (p:List aa):Prop:=(∀ q∈p,0≤q.Oper∧q.Oper < (bz h).length)∧(∀ k:Nat,k < h.ae.length→(cS (gi h.ae (k:Int)) (bz h) (gT (ofH h) (k:Int) p)).2.2=0)∧(∀ y:Nat,y < p.length→eF (bz h) p y=false)∧∀ m,m∉b9 (bz h) p
theorem sj {l:List ab} {of:List Int} {p:List aa} {os:List aj}:∀ (n t:Nat),t+n=os.length→(l4 l of p (os.drop t) (t:Int)=true↔∀ k:Nat,t≤k→k < os.length→(cS (gi os (k:Int)) l (gT of (k:Int) p)).2.2=0)
 | 0,t,ht=>by
  have:t=os.length:=by omega
  subst this
  rw [List.drop_length,l4]
  exact ⟨fun _ k h1 h2=>by omega,fun _=>rfl⟩
 | n+1,t,ht=>by
  rw [qC (by omega)]
  have ih:=sj (l:=l) (of:=of) (p:=p) (os:=os) n (t+1) (by omega)
  push_cast at ih
  have hd:c6 (gi os (t:Int)) l (gi os (t:Int)).aH (gT of (t:Int) p)=cS (gi os (t:Int)) l (gT of (t:Int) p):=rfl
  rw [hd]
  by_cases e:(cS (gi os (t:Int)) l (gT of (t:Int) p)).2.2=0
  ·rw [if_neg (by omega),ih]
   refine ⟨fun hh k h1 h2=>?_,fun hh k h1 h2=>hh k (by omega) h2⟩
   by_cases ek:k=t
   ·subst ek; exact e
   ·exact hh k (by omega) h2
  ·rw [if_pos e]
   exact ⟨(fun hh=>by cases hh),fun hh=>absurd (hh t (by omega) (by omega)) e⟩
theorem Ca {l:List Int}:(l.length == 0)=true↔∀ m,m∉l:=by
 rw [beq_iff_eq,List.length_eq_zero_iff,List.eq_nil_iff_forall_not_mem]
theorem qF {h:al} (hc:(aE h).2=0) {l:List aG} (hl:l.map toL=h.aq) (p:List aa):eA h.ae l p=true↔lP h p:=by
 have hh:(⟨h.ae,l.map toL⟩:al)=h:=by rw [hl]
 have gO:(dJ h.ae l).2=0:=by unfold dJ; rw [hh]; exact hc
 unfold eA lP
 rw [if_neg (by omega),sn gO,hh]
 dsimp only
 have h0:=sj (l:=bz h) (of:=ofH h) (p:=p) (os:=h.ae) h.ae.length 0 (by omega)
 rw [List.drop_zero] at h0
 have h0:l4 (bz h) (ofH h) p h.ae 0=true↔_:=h0
 by_cases ha:p.any (fun q=>decide (q.Oper < 0∨q.Oper≥(bz h).length))=true
 ·rw [if_pos ha]
  obtain ⟨q,hq,hd⟩:=List.any_eq_true.1 ha
  rw [decide_eq_true_eq] at hd
  refine ⟨(fun hh=>by cases hh),fun hh=>?_⟩
  have:=hh.1 q hq
  omega
 ·rw [if_neg ha,Bool.and_eq_true,Bool.and_eq_true,xc,AO,Ca,h0]
  have hin:∀ q∈p,0≤q.Oper∧q.Oper < (bz h).length:=fun q hq=>by
   rw [Bool.not_eq_true,List.any_eq_false] at ha
   have:=ha q hq
   rw [decide_eq_true_eq] at this
   omega
  exact ⟨fun ⟨⟨a,b⟩,c⟩=>⟨hin,fun k hk=>a k (by omega) hk,b,c⟩,fun ⟨_,a,b,c⟩=>⟨⟨fun k _ hk=>a k hk,b⟩,c⟩⟩
end Go.Proofs.YteahldlmkheleaaGreat
