/- Picks by the part's numbers, and by those of the whole. -/
import Derived.Test.YteahldlmkheleaaGreatLV23
set_option linter.all false
namespace Go.Proofs.YteahldlmkheleaaGreat
open Go Go.Sv Go.Pu
theorem Av (own:List Int) (ps:List aa):opers (ps.map (gk own))=(opers ps).map (gi own):=by
 unfold opers
 rw [List.map_map,List.map_map]; rfl
def numOf (l a:List ab) (own:List Int):Prop:=a.length=own.length∧(∀ i:Nat,i < a.length→gi a (i:Int)=gi l (gi own (i:Int))∧0≤gi own (i:Int)∧gi own (i:Int) < l.length)∧∀ i j:Nat,i < j→j < a.length→gi own (i:Int) < gi own (j:Int)
theorem qW (h:ak) (k:Int):numOf (bw h) (dn (bw h) (ofH h) k) (aW (ofH h) k):=by
 have hl:(dn (bw h) (ofH h) k).length=(aW (ofH h) k).length:=by rw [my (ff h),List.length_map]
 exact ⟨hl,fun i hi=>tV hi,fun i j w7 hj=>B2 (by omega) (by omega) (by omega)⟩
theorem uc {l a:List ab} {own:List Int} (h:numOf l a own) {i j:Int} (i0:0≤i) (i1:i < a.length) (j0:0≤j) (j1:j < a.length) (e:gi own i=gi own j):i=j:=by
 obtain ⟨n,rfl⟩:=Int.eq_ofNat_of_zero_le i0
 obtain ⟨m,rfl⟩:=Int.eq_ofNat_of_zero_le j0
 rcases Nat.lt_trichotomy n m with hl | hl | hl
 ·have:=h.2.2 n m hl (by omega); omega
 ·rw [hl]
 ·have:=h.2.2 m n hl (by omega); omega
theorem xm {o:ao} {l a:List ab} {own:List Int} (h:numOf l a own) {p:aa} (h0:0≤p.Oper) (h1:p.Oper < a.length) {prev:List Int} (hp:∀ x∈prev,0≤x∧x < a.length) (s:Int):dr o l (prev.map (gi own)) s (gk own p)=dr o a prev s p:=by
 unfold dr
 obtain ⟨n,hn⟩:=Int.eq_ofNat_of_zero_le h0
 obtain ⟨e1,e2,e3⟩:=h.2.1 n (by omega)
 have er:(gk own p).Oper=gi own p.Oper:=rfl
 have es:(gk own p).Result=p.Result:=rfl
 rw [if_neg (by rw [er,hn]; omega),if_neg (show ¬ (p.Oper < 0∨p.Oper≥a.length) by omega)]
 have hm:(gk own p).Oper∈prev.map (gi own)↔p.Oper∈prev:=by
  rw [er,List.mem_map]
  constructor
  ·rintro ⟨x,hx,e⟩
   have Eg:=hp x hx
   rw [← uc h Eg.1 Eg.2 h0 h1 e]; exact hx
  ·intro hx; exact ⟨_,hx,rfl⟩
 have ht:gC o l s (gk own p)=gC o a s p:=by
  unfold gC hZ
  rw [er,es,hn,e1]
 by_cases hx:p.Oper∈prev
 ·rw [if_pos (hm.2 hx),if_pos hx]
 ·rw [if_neg (fun hh=>hx (hm.1 hh)),if_neg hx,ht]
theorem ss {o:ao} {l a:List ab} {own:List Int} (h:numOf l a own):∀ (ps:List aa) (prev:List Int) (s:Int),(∀ p∈ps,0≤p.Oper∧p.Oper < a.length)→(∀ x∈prev,0≤x∧x < a.length)→ia o l (prev.map (gi own)) s (ps.map (gk own))=ia o a prev s ps
 | [],_,_,_,_=>rfl
 | p :: ps,prev,s,hi,hp=>by
  have LZ:=hi p (List.mem_cons_self ..)
  have kK:=xm (o:=o) h LZ.1 LZ.2 hp s
  have ih:=ss (o:=o) h ps (p.Oper :: prev) (dr o a prev s p).1 (fun q hq=>hi q (List.mem_cons_of_mem _ hq)) (fun x hx=>by
   rcases List.mem_cons.1 hx with rfl | hx
   ·exact LZ
   ·exact hp x hx)
  rw [List.map_cons] at ih
  have er:(gk own p).Oper=gi own p.Oper:=rfl
  rw [List.map_cons,ia,ia,kK,er,ih]
theorem vy {o:ao} {l a:List ab} {own:List Int} (h:numOf l a own) {ps:List aa} (hi:∀ p∈ps,0≤p.Oper∧p.Oper < a.length):cd o l (ps.map (gk own))=cd o a ps:=by
 unfold cd cW
 have:=ss (o:=o) h ps [] o.aH hi (fun x hx=>by cases hx)
 rw [List.map_nil] at this
 rw [this]
theorem xQ {x:Int} {ps:List aa}:x∈opers ps↔∃ p∈ps,p.Oper=x:=by
 unfold opers; exact List.mem_map
theorem nI (ps:List aa) (t:Nat):opers (ps.take t)=(opers ps).take t:=by
 unfold opers; rw [List.map_take]
theorem jn (ps:List aa):(opers ps).length=ps.length:=by
 unfold opers; rw [List.length_map]
theorem oo {ps:List aa} {y:Nat} (hy:y < ps.length):gi (opers ps) (y:Int)=(gi ps (y:Int)).Oper:=by
 unfold opers; exact jA (fun p:aa=>p.Oper) (by omega) (by omega)
theorem ou {l:List Int} {x:Int} {t:Nat}:x∈l.take t↔∃ j:Nat,j < t∧j < l.length∧gi l (j:Int)=x:=by
 constructor
 ·intro hx
  obtain ⟨j,hj,rfl⟩:=List.getElem_of_mem hx
  rw [List.length_take] at hj
  exact ⟨j,by omega,by omega,by rw [cq _ _ (by omega)]; simp⟩
 ·rintro ⟨j,h1,h2,rfl⟩
  rw [cq _ _ h2]
  have:(l.take t)[j]'(by rw [List.length_take]; omega)=l[j]:=by simp
  rw [← this]
  exact List.getElem_mem _
theorem q5 {l:List Int} (h:l.Nodup) {i j:Nat} (hi:i < l.length) (hj:j < l.length) (e:gi l (i:Int)=gi l (j:Int)):i=j:=by
 rw [cq _ _ hi,cq _ _ hj] at e
 rcases Nat.lt_trichotomy i j with hl | hl | hl
 ·exact absurd e (List.pairwise_iff_getElem.1 h i j hi hj hl)
 ·exact hl
 ·exact absurd e.symm (List.pairwise_iff_getElem.1 h j i hj hi hl)
theorem zV {o:ao} {a:List ab} {ps:List aa} (hw:de o a ps=true) {y k:Nat} (hy:y < ps.length) (hk:k < a.length) (ha:bf (gi a (k:Int)) (gi a (gi ps (y:Int)).Oper)=true):(k:Int)∈opers (ps.take y):=by
 obtain ⟨_,_,w3,w4,_⟩:=nN.1 hw
 have kF:=(oh w3).2 _ (lr (eJ (l:=ps) (i:=(y:Int)) (by omega) (by omega)))
 refine Classical.byContradiction (fun hn=>?_)
 have:=uE kF hk ha hn
 rw [w4 y hy] at this; cases this
theorem zW {o:ao} {a:List ab} {ps:List aa} (hw:de o a ps=true) {k:Nat} (hk:k < a.length) (he:(gi a (k:Int)).End≠-1):(k:Int)∈opers ps:=by
 obtain ⟨_,_,_,_,w5⟩:=nN.1 hw
 refine Classical.byContradiction (fun hn=>?_)
 exact w5 _ (iI.2 ⟨by omega,by omega,he,hn⟩)
theorem As {l:List ab} {p:List aa}:decide (cB l p < 0)=true↔∀ y:Nat,y < p.length→dM l p y=false:=by
 rw [decide_eq_true_eq]
 constructor
 ·intro hh; exact sP (by omega)
 ·intro hh; rw [qQ hh]; omega
theorem xK {p:List aa} {k:Int} {y:Nat} (hy:y≤p.length):(decide (cl p k < 0) || decide (cl p k≥y))=!decide (k∈opers (p.take y)):=by
 rw [nI]
 rcases qJ p k with ⟨h1,h2⟩ | ⟨j,h1,h2,h3,h4⟩
 ·rw [h1,decide_eq_true (by omega),Bool.true_or,decide_eq_false (fun hh=>h2 (List.mem_of_mem_take hh))]; rfl
 ·rw [h2,decide_eq_false (show ¬ ((j:Int) < 0) by omega),Bool.false_or]
  by_cases e:j < y
  ·rw [decide_eq_false (by omega),decide_eq_true (ou.2 ⟨j,e,by rw [jn]; exact h1,by rw [oo h1]; exact h3⟩)]; rfl
  ·rw [decide_eq_true (by omega),decide_eq_false]
   ·rfl
   ·rintro hh
    obtain ⟨i,i1,i2,i3⟩:=ou.1 hh
    rw [jn] at i2
    rw [oo i2] at i3
    exact h4 i (by omega) i3
theorem zg {l:List ab} {p:List aa} {y:Nat} (hy:y < p.length):pL l p y=dM l p y:=by
 unfold pL dM
 congr 1
 congr 1
 funext k
 rw [xK (by omega)]
theorem xw {l:List ab} {p:List aa}:decide (eG l p < 0)=true↔∀ y:Nat,y < p.length→dM l p y=false:=by
 rw [decide_eq_true_eq]
 unfold eG
 cases e:(List.range p.length).find? (pL l p) with
 | none =>
  rw [List.find?_eq_none] at e
  refine ⟨fun _ y hy=>?_,fun _=>by dsimp only; omega⟩
  have:=e y (List.mem_range.2 hy)
  rw [zg hy] at this
  simpa using this
 | some x =>
  have h1:=List.mem_range.1 (List.mem_of_find?_eq_some e)
  have h2:=List.find?_some e
  rw [zg h1] at h2
  refine ⟨fun hh=>absurd hh (by dsimp only; omega),fun hh=>?_⟩
  rw [hh x h1] at h2; cases h2
theorem A0 (l:List ab) (p:List aa):eW l p false=b8 l p:=by
 unfold eW b8 ec gS
 congr 1
 congr 1
 funext i
 unfold pT kV
 rw [Bool.and_comm]
 congr 1
 by_cases e:(i:Int)∈opers p
 ·rw [decide_eq_true e]
  have:=sJ.2 e
  rw [decide_eq_false (by omega)]; rfl
 ·rw [decide_eq_false e]
  have:¬ cl p (i:Int)≥0:=fun hh=>e (sJ.1 hh)
  rw [decide_eq_true (by omega)]; rfl
def oy (h:ak) (p:List aa):Prop:=(∀ q∈p,0≤q.Oper∧q.Oper < (bw h).length)∧(∀ k:Nat,k < h.ae.length→(cd (gi h.ae (k:Int)) (bw h) (kH (ofH h) (k:Int) p)).2.2=0)∧(∀ y:Nat,y < p.length→dM (bw h) p y=false)∧∀ m,m∉b8 (bw h) p
theorem EX {l:List ab} {of:List Int} {p:List aa} (hi:∀ q∈p,0≤q.Oper∧q.Oper < l.length) (k:Int):sa l of k p=kH of k p:=by
 unfold sa kH
 refine List.filter_congr (fun q hq=>?_)
 have:=hi q hq
 rw [decide_eq_false (by omega),Bool.false_or]
theorem vb {l:List ab} {of:List Int} {p:List aa} {os:List ao}:∀ (n t:Nat),t+n=os.length→(iS l of p (os.drop t) (t:Int)=true↔∀ k:Nat,t≤k→k < os.length→(cd (gi os (k:Int)) l (sa l of (k:Int) p)).2.2=0)
 | 0,t,ht=>by
  have:t=os.length:=by omega
  subst this
  rw [List.drop_length,iS]
  exact ⟨fun _ k h1 h2=>by omega,fun _=>rfl⟩
 | n+1,t,ht=>by
  rw [sr (by omega)]
  have ih:=vb (l:=l) (of:=of) (p:=p) (os:=os) n (t+1) (by omega)
  push_cast at ih
  by_cases e:(cd (gi os (t:Int)) l (sa l of (t:Int) p)).2.2=0
  ·rw [if_neg (by omega),ih]
   refine ⟨fun hh k h1 h2=>?_,fun hh k h1 h2=>hh k (by omega) h2⟩
   by_cases ek:k=t
   ·subst ek; exact e
   ·exact hh k (by omega) h2
  ·rw [if_pos e]
   exact ⟨(fun hh=>by cases hh),fun hh=>absurd (hh t (by omega) (by omega)) e⟩
theorem su {l:List ab} {of:List Int} {p:List aa} {os:List ao}:∀ (n t:Nat),t+n=os.length→(l4 l of p (os.drop t) (t:Int)=true↔∀ k:Nat,t≤k→k < os.length→(cd (gi os (k:Int)) l (kH of (k:Int) p)).2.2=0)
 | 0,t,ht=>by
  have:t=os.length:=by omega
  subst this
  rw [List.drop_length,l4]
  exact ⟨fun _ k h1 h2=>by omega,fun _=>rfl⟩
 | n+1,t,ht=>by
  rw [qA (by omega)]
  have ih:=su (l:=l) (of:=of) (p:=p) (os:=os) n (t+1) (by omega)
  push_cast at ih
  have hd:cW (gi os (t:Int)) l (gi os (t:Int)).aH (kH of (t:Int) p)=cd (gi os (t:Int)) l (kH of (t:Int) p):=rfl
  rw [hd]
  by_cases e:(cd (gi os (t:Int)) l (kH of (t:Int) p)).2.2=0
  ·rw [if_neg (by omega),ih]
   refine ⟨fun hh k h1 h2=>?_,fun hh k h1 h2=>hh k (by omega) h2⟩
   by_cases ek:k=t
   ·subst ek; exact e
   ·exact hh k (by omega) h2
  ·rw [if_pos e]
   exact ⟨(fun hh=>by cases hh),fun hh=>absurd (hh t (by omega) (by omega)) e⟩
theorem vF {l:List Int}:(l.length == 0)=true↔∀ m,m∉l:=by
 rw [beq_iff_eq,List.length_eq_zero_iff,List.eq_nil_iff_forall_not_mem]
theorem AE {h:ak} (hc:(aD h).2=0) (p:List aa):eH h p=true↔oy h p:=by
 unfold eH oy
 rw [if_neg (by omega),Bool.and_eq_true,Bool.and_eq_true,As,vF]
 have h0:=vb (l:=bw h) (of:=ofH h) (p:=p) (os:=h.ae) h.ae.length 0 (by omega)
 rw [List.drop_zero] at h0
 have h0:iS (bw h) (ofH h) p h.ae 0=true↔_:=h0
 rw [h0]
 have Su:=qU hc
 constructor
 ·rintro ⟨⟨h1,h2⟩,h3⟩
  have kF:∀ q∈p,0≤q.Oper∧q.Oper < (bw h).length:=fun q hq=>by
   refine Classical.byContradiction (fun hn=>?_)
   have hm:q∈sa (bw h) (ofH h) ((0:Nat):Int) p:=by
    unfold sa
    rw [List.mem_filter]
    exact ⟨hq,by rw [decide_eq_true (by omega),Bool.true_or]⟩
   exact hn ((oh (h1 0 (by omega) (by omega))).2 _ (lr hm))
  exact ⟨kF,fun k hk=>by rw [← EX kF]; exact h1 k (by omega) hk,h2,h3⟩
 ·rintro ⟨kF,h1,h2,h3⟩
  exact ⟨⟨fun k _ hk=>by rw [EX kF]; exact h1 k hk,h2⟩,h3⟩
theorem xx {h:ak} (hc:(aD h).2=0) {l:List aK} (hl:l.map toL=h.al) (p:List aa):fM h.ae l p=true↔oy h p:=by
 have hh:(⟨h.ae,l.map toL⟩:ak)=h:=by rw [hl]
 have g8:(dE h.ae l).2=0:=by unfold dE; rw [hh]; exact hc
 unfold fM oy
 rw [if_neg (by omega),sx g8,hh]
 dsimp only
 have h0:=su (l:=bw h) (of:=ofH h) (p:=p) (os:=h.ae) h.ae.length 0 (by omega)
 rw [List.drop_zero] at h0
 have h0:l4 (bw h) (ofH h) p h.ae 0=true↔_:=h0
 by_cases ha:p.any (fun q=>decide (q.Oper < 0∨q.Oper≥(bw h).length))=true
 ·rw [if_pos ha]
  obtain ⟨q,hq,hd⟩:=List.any_eq_true.1 ha
  rw [decide_eq_true_eq] at hd
  refine ⟨(fun hh=>by cases hh),fun hh=>?_⟩
  have:=hh.1 q hq
  omega
 ·rw [if_neg ha,Bool.and_eq_true,Bool.and_eq_true,xw,A0,vF,h0]
  have kF:∀ q∈p,0≤q.Oper∧q.Oper < (bw h).length:=fun q hq=>by
   rw [Bool.not_eq_true,List.any_eq_false] at ha
   have:=ha q hq
   rw [decide_eq_true_eq] at this
   omega
  exact ⟨fun ⟨⟨a,b⟩,c⟩=>⟨kF,fun k hk=>a k (by omega) hk,b,c⟩,fun ⟨_,a,b,c⟩=>⟨⟨fun k _ hk=>a k hk,b⟩,c⟩⟩
end Go.Proofs.YteahldlmkheleaaGreat
