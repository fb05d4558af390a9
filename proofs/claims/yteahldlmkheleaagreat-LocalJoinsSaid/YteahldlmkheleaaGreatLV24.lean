/- MK by the EQ numbers,and by those of the whole. -/
import Derived.Test.YteahldlmkheleaaGreatLV23
set_option linter.all false
namespace Go.Proofs.YteahldlmkheleaaGreat
open Go Go.Sv Go.Pu
theorem ze (own:List Int) (ps:List aa):opers (ps.map (fP own))=(opers ps).map (gi own):=by
 unfold opers
 rw [List.map_map,List.map_map]; rfl
def numOf (l a:List ab) (own:List Int):Prop:=a.length=own.length∧(∀ i:Nat,i < a.length→gi a (i:Int)=gi l (gi own (i:Int))∧0≤gi own (i:Int)∧gi own (i:Int) < l.length)∧∀ i j:Nat,i < j→j < a.length→gi own (i:Int) < gi own (j:Int)
theorem p9 (h:aj) (k:Int):numOf (bo h) (dc (bo h) (ofH h) k) (aS (ofH h) k):=by
 have hl:(dc (bo h) (ofH h) k).length=(aS (ofH h) k).length:=by rw [lM (eR h),List.length_map]
 exact ⟨hl,fun i hi=>sP hi,fun i j vI hj=>AN (by omega) (by omega) (by omega)⟩
theorem sX {l a:List ab} {own:List Int} (h:numOf l a own) {i j:Int} (i0:0≤i) (i1:i < a.length) (j0:0≤j) (j1:j < a.length) (e:gi own i=gi own j):i=j:=by
 obtain ⟨n,rfl⟩:=Int.eq_ofNat_of_zero_le i0
 obtain ⟨m,rfl⟩:=Int.eq_ofNat_of_zero_le j0
 rcases Nat.lt_trichotomy n m with hl | hl | hl
 ·have:=h.2.2 n m hl (by omega); omega
 ·rw [hl]
 ·have:=h.2.2 m n hl (by omega); omega
theorem vW {o:al} {l a:List ab} {own:List Int} (h:numOf l a own) {p:aa} (h0:0≤p.Oper) (h1:p.Oper < a.length) {prev:List Int} (hp:∀ x∈prev,0≤x∧x < a.length) (s:Int):dg o l (prev.map (gi own)) s (fP own p)=dg o a prev s p:=by
 unfold dg
 obtain ⟨n,hn⟩:=Int.eq_ofNat_of_zero_le h0
 obtain ⟨e1,e2,e3⟩:=h.2.1 n (by omega)
 have er:(fP own p).Oper=gi own p.Oper:=rfl
 have es:(fP own p).Result=p.Result:=rfl
 rw [if_neg (by rw [er,hn]; omega),if_neg (show ¬ (p.Oper < 0∨p.Oper≥a.length) by omega)]
 have hm:(fP own p).Oper∈prev.map (gi own)↔p.Oper∈prev:=by
  rw [er,List.mem_map]
  constructor
  ·rintro ⟨x,hx,e⟩
   have CY:=hp x hx
   rw [← sX h CY.1 CY.2 h0 h1 e]; exact hx
  ·intro hx; exact ⟨_,hx,rfl⟩
 have ht:gg o l s (fP own p)=gg o a s p:=by
  unfold gg gM
  rw [er,es,hn,e1]
 by_cases hx:p.Oper∈prev
 ·rw [if_pos (hm.2 hx),if_pos hx]
 ·rw [if_neg (fun hh=>hx (hm.1 hh)),if_neg hx,ht]
theorem rn {o:al} {l a:List ab} {own:List Int} (h:numOf l a own):∀ (ps:List aa) (prev:List Int) (s:Int),(∀ p∈ps,0≤p.Oper∧p.Oper < a.length)→(∀ x∈prev,0≤x∧x < a.length)→gN o l (prev.map (gi own)) s (ps.map (fP own))=gN o a prev s ps
 | [],_,_,_,_=>rfl
 | p :: ps,prev,s,hi,hp=>by
  have KC:=hi p (List.mem_cons_self ..)
  have jW:=vW (o:=o) h KC.1 KC.2 hp s
  have ih:=rn (o:=o) h ps (p.Oper :: prev) (dg o a prev s p).1 (fun q hq=>hi q (List.mem_cons_of_mem _ hq)) (fun x hx=>by
   rcases List.mem_cons.1 hx with rfl | hx
   ·exact KC
   ·exact hp x hx)
  rw [List.map_cons] at ih
  have er:(fP own p).Oper=gi own p.Oper:=rfl
  rw [List.map_cons,gN,gN,jW,er,ih]
theorem uv {o:al} {l a:List ab} {own:List Int} (h:numOf l a own) {ps:List aa} (hi:∀ p∈ps,0≤p.Oper∧p.Oper < a.length):b7 o l (ps.map (fP own))=b7 o a ps:=by
 unfold b7 cH
 have:=rn (o:=o) h ps [] o.aE hi (fun x hx=>by cases hx)
 rw [List.map_nil] at this
 rw [this]
theorem wA {x:Int} {ps:List aa}:x∈opers ps↔∃ p∈ps,p.Oper=x:=by
 unfold opers; exact List.mem_map
theorem mP (ps:List aa) (t:Nat):opers (ps.take t)=(opers ps).take t:=by
 unfold opers; rw [List.map_take]
theorem iM (ps:List aa):(opers ps).length=ps.length:=by
 unfold opers; rw [List.length_map]
theorem nz {ps:List aa} {y:Nat} (hy:y < ps.length):gi (opers ps) (y:Int)=(gi ps (y:Int)).Oper:=by
 unfold opers; exact iZ (fun p:aa=>p.Oper) (by omega) (by omega)
theorem nC {l:List Int} {x:Int} {t:Nat}:x∈l.take t↔∃ j:Nat,j < t∧j < l.length∧gi l (j:Int)=x:=by
 constructor
 ·intro hx
  obtain ⟨j,hj,rfl⟩:=List.getElem_of_mem hx
  rw [List.length_take] at hj
  exact ⟨j,by omega,by omega,by rw [cd _ _ (by omega)]; simp⟩
 ·rintro ⟨j,h1,h2,rfl⟩
  rw [cd _ _ h2]
  have:(l.take t)[j]'(by rw [List.length_take]; omega)=l[j]:=by simp
  rw [← this]
  exact List.getElem_mem _
theorem qd {l:List Int} (h:l.Nodup) {i j:Nat} (hi:i < l.length) (hj:j < l.length) (e:gi l (i:Int)=gi l (j:Int)):i=j:=by
 rw [cd _ _ hi,cd _ _ hj] at e
 rcases Nat.lt_trichotomy i j with hl | hl | hl
 ·exact absurd e (List.pairwise_iff_getElem.1 h i j hi hj hl)
 ·exact hl
 ·exact absurd e.symm (List.pairwise_iff_getElem.1 h j i hj hi hl)
theorem yx {o:al} {a:List ab} {ps:List aa} (hw:cY o a ps=true) {y k:Nat} (hy:y < ps.length) (hk:k < a.length) (ha:bb (gi a (k:Int)) (gi a (gi ps (y:Int)).Oper)=true):(k:Int)∈opers (ps.take y):=by
 obtain ⟨_,_,w3,w4,_⟩:=mU.1 hw
 have jS:=(nx w3).2 _ (kG (ep (l:=ps) (i:=(y:Int)) (by omega) (by omega)))
 refine Classical.byContradiction (fun hn=>?_)
 have:=tw jS hk ha hn
 rw [w4 y hy] at this; cases this
theorem yy {o:al} {a:List ab} {ps:List aa} (hw:cY o a ps=true) {k:Nat} (hk:k < a.length) (he:(gi a (k:Int)).End≠-1):(k:Int)∈opers ps:=by
 obtain ⟨_,_,_,_,w5⟩:=mU.1 hw
 refine Classical.byContradiction (fun hn=>?_)
 exact w5 _ (ia.2 ⟨by omega,by omega,he,hn⟩)
theorem zc {l:List ab} {p:List aa}:decide (ct l p < 0)=true↔∀ y:Nat,y < p.length→dC l p y=false:=by
 rw [decide_eq_true_eq]
 constructor
 ·intro hh; exact rK (by omega)
 ·intro hh; rw [p3 hh]; omega
theorem wq {p:List aa} {k:Int} {y:Nat} (hy:y≤p.length):(decide (ca p k < 0) || decide (ca p k≥y))=!decide (k∈opers (p.take y)):=by
 rw [mP]
 rcases pU p k with ⟨h1,h2⟩ | ⟨j,h1,h2,h3,h4⟩
 ·rw [h1,decide_eq_true (by omega),Bool.true_or,decide_eq_false (fun hh=>h2 (List.mem_of_mem_take hh))]; rfl
 ·rw [h2,decide_eq_false (show ¬ ((j:Int) < 0) by omega),Bool.false_or]
  by_cases e:j < y
  ·rw [decide_eq_false (by omega),decide_eq_true (nC.2 ⟨j,e,by rw [iM]; exact h1,by rw [nz h1]; exact h3⟩)]; rfl
  ·rw [decide_eq_true (by omega),decide_eq_false]
   ·rfl
   ·rintro hh
    obtain ⟨i,i1,i2,i3⟩:=nC.1 hh
    rw [iM] at i2
    rw [nz i2] at i3
    exact h4 i (by omega) i3
theorem xM {l:List ab} {p:List aa} {y:Nat} (hy:y < p.length):oQ l p y=dC l p y:=by
 unfold oQ dC
 congr 1
 congr 1
 funext k
 rw [wq (by omega)]
theorem wc {l:List ab} {p:List aa}:decide (ea l p < 0)=true↔∀ y:Nat,y < p.length→dC l p y=false:=by
 rw [decide_eq_true_eq]
 unfold ea
 cases e:(List.range p.length).find? (oQ l p) with
 | none =>
  rw [List.find?_eq_none] at e
  refine ⟨fun _ y hy=>?_,fun _=>by dsimp only; omega⟩
  have:=e y (List.mem_range.2 hy)
  rw [xM hy] at this
  simpa using this
 | some x =>
  have h1:=List.mem_range.1 (List.mem_of_find?_eq_some e)
  have h2:=List.find?_some e
  rw [xM h1] at h2
  refine ⟨fun hh=>absurd hh (by dsimp only; omega),fun hh=>?_⟩
  rw [hh x h1] at h2; cases h2
theorem zL (l:List ab) (p:List aa):eF l p false=bX l p:=by
 unfold eF bX dR gv
 congr 1
 congr 1
 funext i
 unfold oX ke
 rw [Bool.and_comm]
 congr 1
 by_cases e:(i:Int)∈opers p
 ·rw [decide_eq_true e]
  have:=rF.2 e
  rw [decide_eq_false (by omega)]; rfl
 ·rw [decide_eq_false e]
  have:¬ ca p (i:Int)≥0:=fun hh=>e (rF.1 hh)
  rw [decide_eq_true (by omega)]; rfl
def nG (h:aj) (p:List aa):Prop:=(∀ q∈p,0≤q.Oper∧q.Oper < (bo h).length)∧(∀ k:Nat,k < h.ae.length→(b7 (gi h.ae (k:Int)) (bo h) (jU (ofH h) (k:Int) p)).2.2=0)∧(∀ y:Nat,y < p.length→dC (bo h) p y=false)∧∀ m,m∉bX (bo h) p
theorem DH {l:List ab} {of:List Int} {p:List aa} (hi:∀ q∈p,0≤q.Oper∧q.Oper < l.length) (k:Int):q7 l of k p=jU of k p:=by
 unfold q7 jU
 refine List.filter_congr (fun q hq=>?_)
 have:=hi q hq
 rw [decide_eq_false (by omega),Bool.false_or]
theorem ua {l:List ab} {of:List Int} {p:List aa} {os:List al}:∀ (n t:Nat),t+n=os.length→(iq l of p (os.drop t) (t:Int)=true↔∀ k:Nat,t≤k→k < os.length→(b7 (gi os (k:Int)) l (q7 l of (k:Int) p)).2.2=0)
 | 0,t,ht=>by
  have:t=os.length:=by omega
  subst this
  rw [List.drop_length,iq]
  exact ⟨fun _ k h1 h2=>by omega,fun _=>rfl⟩
 | n+1,t,ht=>by
  rw [rm (by omega)]
  have ih:=ua (l:=l) (of:=of) (p:=p) (os:=os) n (t+1) (by omega)
  push_cast at ih
  by_cases e:(b7 (gi os (t:Int)) l (q7 l of (t:Int) p)).2.2=0
  ·rw [if_neg (by omega),ih]
   refine ⟨fun hh k h1 h2=>?_,fun hh k h1 h2=>hh k (by omega) h2⟩
   by_cases ek:k=t
   ·subst ek; exact e
   ·exact hh k (by omega) h2
  ·rw [if_pos e]
   exact ⟨(fun hh=>by cases hh),fun hh=>absurd (hh t (by omega) (by omega)) e⟩
theorem rp {l:List ab} {of:List Int} {p:List aa} {os:List al}:∀ (n t:Nat),t+n=os.length→(lp l of p (os.drop t) (t:Int)=true↔∀ k:Nat,t≤k→k < os.length→(b7 (gi os (k:Int)) l (jU of (k:Int) p)).2.2=0)
 | 0,t,ht=>by
  have:t=os.length:=by omega
  subst this
  rw [List.drop_length,lp]
  exact ⟨fun _ k h1 h2=>by omega,fun _=>rfl⟩
 | n+1,t,ht=>by
  rw [pK (by omega)]
  have ih:=rp (l:=l) (of:=of) (p:=p) (os:=os) n (t+1) (by omega)
  push_cast at ih
  have hd:cH (gi os (t:Int)) l (gi os (t:Int)).aE (jU of (t:Int) p)=b7 (gi os (t:Int)) l (jU of (t:Int) p):=rfl
  rw [hd]
  by_cases e:(b7 (gi os (t:Int)) l (jU of (t:Int) p)).2.2=0
  ·rw [if_neg (by omega),ih]
   refine ⟨fun hh k h1 h2=>?_,fun hh k h1 h2=>hh k (by omega) h2⟩
   by_cases ek:k=t
   ·subst ek; exact e
   ·exact hh k (by omega) h2
  ·rw [if_pos e]
   exact ⟨(fun hh=>by cases hh),fun hh=>absurd (hh t (by omega) (by omega)) e⟩
theorem uC {l:List Int}:(l.length == 0)=true↔∀ m,m∉l:=by
 rw [beq_iff_eq,List.length_eq_zero_iff,List.eq_nil_iff_forall_not_mem]
theorem zm {h:aj} (hc:(aA h).2=0) (p:List aa):ec h p=true↔nG h p:=by
 unfold ec nG
 rw [if_neg (by omega),Bool.and_eq_true,Bool.and_eq_true,zc,uC]
 have h0:=ua (l:=bo h) (of:=ofH h) (p:=p) (os:=h.ae) h.ae.length 0 (by omega)
 rw [List.drop_zero] at h0
 have h0:iq (bo h) (ofH h) p h.ae 0=true↔_:=h0
 rw [h0]
 have QW:=p7 hc
 constructor
 ·rintro ⟨⟨h1,h2⟩,h3⟩
  have jS:∀ q∈p,0≤q.Oper∧q.Oper < (bo h).length:=fun q hq=>by
   refine Classical.byContradiction (fun hn=>?_)
   have hm:q∈q7 (bo h) (ofH h) ((0:Nat):Int) p:=by
    unfold q7
    rw [List.mem_filter]
    exact ⟨hq,by rw [decide_eq_true (by omega),Bool.true_or]⟩
   exact hn ((nx (h1 0 (by omega) (by omega))).2 _ (kG hm))
  exact ⟨jS,fun k hk=>by rw [← DH jS]; exact h1 k (by omega) hk,h2,h3⟩
 ·rintro ⟨jS,h1,h2,h3⟩
  exact ⟨⟨fun k _ hk=>by rw [DH jS]; exact h1 k hk,h2⟩,h3⟩
theorem we {h:aj} (hc:(aA h).2=0) {l:List aH} (hl:l.map toL=h.ak) (p:List aa):fq h.ae l p=true↔nG h p:=by
 have hh:(⟨h.ae,l.map toL⟩:aj)=h:=by rw [hl]
 have gE:(du h.ae l).2=0:=by unfold du; rw [hh]; exact hc
 unfold fq nG
 rw [if_neg (by omega),rr gE,hh]
 dsimp only
 have h0:=rp (l:=bo h) (of:=ofH h) (p:=p) (os:=h.ae) h.ae.length 0 (by omega)
 rw [List.drop_zero] at h0
 have h0:lp (bo h) (ofH h) p h.ae 0=true↔_:=h0
 by_cases ha:p.any (fun q=>decide (q.Oper < 0∨q.Oper≥(bo h).length))=true
 ·rw [if_pos ha]
  obtain ⟨q,hq,hd⟩:=List.any_eq_true.1 ha
  rw [decide_eq_true_eq] at hd
  refine ⟨(fun hh=>by cases hh),fun hh=>?_⟩
  have:=hh.1 q hq
  omega
 ·rw [if_neg ha,Bool.and_eq_true,Bool.and_eq_true,wc,zL,uC,h0]
  have jS:∀ q∈p,0≤q.Oper∧q.Oper < (bo h).length:=fun q hq=>by
   rw [Bool.not_eq_true,List.any_eq_false] at ha
   have:=ha q hq
   rw [decide_eq_true_eq] at this
   omega
  exact ⟨fun ⟨⟨a,b⟩,c⟩=>⟨jS,fun k hk=>a k (by omega) hk,b,c⟩,fun ⟨_,a,b,c⟩=>⟨⟨fun k _ hk=>a k hk,b⟩,c⟩⟩
end Go.Proofs.YteahldlmkheleaaGreat
