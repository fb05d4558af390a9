/- A EQ own jx Lm its jx in the whole,by other places. -/
import Derived.Test.YteahldlmkheleaaGreatLV21
set_option linter.all false
namespace Go.Proofs.YteahldlmkheleaaGreat
open Go Go.Sv Go.Pu
theorem zy {l:List au} (hl:l.length≤10000) (h:∀ j:Int,0≤j→j < l.length→evE (gi l j)=0∧((dW (l.take j.toNat) (gi l j).ah == 1) == ((gi l j).bh == 1))=false):(bw l).2=0:=by
 unfold bw
 rw [if_neg (by omega)]
 exact rY l l.length 0 (fun j h0 h1=>h j h0 (by omega))
theorem oo {α:Type} [Inhabited α] {l:List α} {x:α} {j:Int} (h0:0≤j) (h1:j < l.length):gi (l++[x]) j=gi l j:=by
 rw [jk h0 (by simp; omega),jk h0 h1,List.getElem_append_left]
theorem om {α:Type} [Inhabited α] (l:List α) (x:α):gi (l++[x]) (l.length:Int)=x:=by
 rw [cd _ _ (by simp)]; simp
theorem Dc {l:List au} {x:au} (h:(bw l).2=0) (hx:qB l x):(bw (l++[x])).2=0:=by
 obtain ⟨h1,h2⟩:=qA h
 refine zy (by rw [List.length_append,List.length_singleton]; have:=hx.2.2; omega) (fun j j0 j1=>?_)
 rw [List.length_append,List.length_singleton] at j1
 by_cases e:j < l.length
 ·rw [oo j0 e,List.take_append_of_le_length (by omega)]
  exact h2 j j0 e
 ·have:j=(l.length:Int):=by omega
  subst this
  rw [om,show ((l.length:Int)).toNat=l.length by omega,List.take_left]
  exact ⟨hx.1,hx.2.1⟩
theorem wo (h:aj) (t:Nat):(bk h).take t=(h.ak.take t).map (·.aK):=by unfold bk; rw [List.map_take]
theorem nv {h:aj} {t:Nat} (ht:t < h.ak.length):gi (bk h) (t:Int)=(gi h.ak (t:Int)).aK:=iZ (fun x:aR=>x.aK) (by omega) (by omega)
theorem qp {h:aj} (hc:(aA h).2=0) {t:Nat} (ht:t < h.ak.length):hX h.ae (jc (h.ak.take t)) (gi h.ak (t:Int))=0:=by
 have go:∀ (n s:Nat),s+n=h.ak.length→(hGo h.ae (h.ak.drop s) s (jc (h.ak.take s))).2=0→∀ u,s≤u→u < h.ak.length→hX h.ae (jc (h.ak.take u)) (gi h.ak (u:Int))=0:=by
  intro n
  induction n with
  | zero=>intro s hs _ u h1 h2; omega
  | succ n ih =>
   intro s hs hg u h1 h2
   rw [qt (by omega)] at hg
   by_cases e:hX h.ae (jc (h.ak.take s)) (gi h.ak (s:Int))≠0
   ·rw [if_pos e] at hg; exact absurd hg e
   ·rw [if_neg e] at hg
    by_cases hu:u=s
    ·subst hu; omega
    ·refine ih (s+1) (by omega) ?_ u (by omega) h2
     rw [eE (by omega),kS]
     push_cast
     exact hg
 exact go h.ak.length 0 (by omega) (hY hc).2.2 t (by omega) ht
theorem mW {os:List al} {b:List (Int × Int)} {x:aR} (h:hX os b x=0):(0≤x.aw∧x.aw < os.length)∧(x.aK.bh=2→(aC b x.aK.ah).getD 0=x.aw):=by
 unfold hX at h
 by_cases h1:x.aw < 0∨x.aw≥os.length
 ·rw [if_pos h1] at h; cases h
 ·rw [if_neg h1] at h
  refine ⟨by omega,fun hw=>?_⟩
  by_cases h2:x.aK.bh=2∧(aC b x.aK.ah).getD 0≠x.aw
  ·rw [if_pos h2] at h; cases h
  ·exact Decidable.of_not_not (fun hh=>h2 ⟨hw,hh⟩)
theorem sY {h:aj} (hc:(aA h).2=0) {t:Nat} (ht:t < h.ak.length):qB ((bk h).take t) (gi h.ak (t:Int)).aK:=by
 have:=py (hY hc).1 (k:=t) (by rw [gk]; exact ht)
 rwa [nv ht] at this
theorem ym {l:List aR} {t:Nat} (ht:t < l.length) (p:Int):aC (jc (l.take (t+1))) p=if p=(gi l (t:Int)).aK.ah then some (gi l (t:Int)).aw else aC (jc (l.take t)) p:=by
 rw [eE ht,kS,eO]
theorem uD {h:aj} {t:Nat} (ht:t < h.ak.length) (p:Int):dW ((bk h).take (t+1)) p=if (gi h.ak (t:Int)).aK.ah=p then (gi h.ak (t:Int)).aK.bh else dW ((bk h).take t) p:=by
 rw [eE (by rw [gk]; exact ht),eU,nv ht]
theorem rI {h:aj} (hc:(aA h).2=0) (p k:Int):∀ t:Nat,t≤h.ak.length→(dW (dG (h.ak.take t) k) p=1↔(dW ((bk h).take t) p=1∧aC (jc (h.ak.take t)) p=some k))
 | 0,_=>by simp [dG,dW]
 | t+1,ht=>by
  have ih:=rI hc p k t (by omega)
  have hx:=sY hc (t:=t) (by omega)
  have he:=mW (qp hc (t:=t) (by omega))
  rw [kb k (by omega),uD (by omega),ym (by omega)]
  generalize gi h.ak (t:Int)=x at *
  by_cases hp:x.aK.ah=p
  ·subst hp
   rw [if_pos rfl,if_pos rfl]
   by_cases hk:x.aw=k
   ·rw [if_pos (by simpa using hk),eU,if_pos rfl,hk]; simp
   ·rw [if_neg (by simpa using hk),List.append_nil]
    refine ⟨fun hh=>?_,fun hh=>absurd (Option.some.inj hh.2) hk⟩
    obtain ⟨a,b⟩:=ih.1 hh
    rcases jz hx with ⟨_,w⟩ | ⟨w,_⟩
    ·exact absurd a w
    ·have:=he.2 w
     rw [b] at this
     exact absurd this.symm hk
  ·rw [if_neg hp,if_neg (show ¬ p=x.aK.ah from fun hh=>hp hh.symm),← ih]
   split
   ·rw [eU,if_neg hp]
   ·rw [List.append_nil]
theorem pY {h:aj} (hc:(aA h).2=0) (k:Int):∀ t:Nat,t≤h.ak.length→(bw (dG (h.ak.take t) k)).2=0
 | 0,_=>by
  show (bw []).2=0
  decide
 | t+1,ht=>by
  have ih:=pY hc k t (by omega)
  have hx:=sY hc (t:=t) (by omega)
  have he:=mW (qp hc (t:=t) (by omega))
  have hl:=rI hc (gi h.ak (t:Int)).aK.ah k t (by omega)
  have h10:=(pq (hY hc).1).2
  rw [gk] at h10
  have hle:=wu h.ak k t
  rw [kb k (by omega)]
  generalize gi h.ak (t:Int)=x at *
  by_cases hk:x.aw=k
  ·rw [if_pos (by simpa using hk)]
   refine Dc ih ⟨hx.1,?_,by omega⟩
   rcases jz hx with ⟨w1,w2⟩ | ⟨w1,w2⟩
   ·have:¬ dW (dG (h.ak.take t) k) x.aK.ah=1:=fun hh=>w2 (hl.1 hh).1
    rw [w1]; simpa using this
   ·have hs:=sb x.aK.ah (h.ak.take t) (by rw [← wo]; exact w2)
    obtain ⟨v,hv⟩:=Option.isSome_iff_exists.1 hs
    have h2:=he.2 w1
    rw [hv] at h2
    have h2:v=x.aw:=h2
    have:dW (dG (h.ak.take t) k) x.aK.ah=1:=hl.2 ⟨w2,by rw [hv,h2,hk]⟩
    rw [w1,this]; decide
  ·rw [if_neg (by simpa using hk),List.append_nil]; exact ih
theorem sN {h:aj} (hc:(aA h).2=0) (k:Int):(bw (dG h.ak k)).2=0:=by
 have:=pY hc k h.ak.length (by omega)
 rwa [List.take_length] at this
def mM (h:aj) (k:Int) (t:Nat):List Int:=g7 (h.ak.map (·.aw)) k t
def cnt (h:aj) (k:Int) (t:Nat):Nat:=(dG (h.ak.take t) k).length
theorem sU {h:aj} {t:Nat} (ht:t < h.ak.length):gi (h.ak.map (·.aw)) (t:Int)=(gi h.ak (t:Int)).aw:=iZ (fun x:aR=>x.aw) (by omega) (by omega)
theorem pT {h:aj} (k:Int):∀ t:Nat,t≤h.ak.length→(mM h k t).length=cnt h k t
 | 0,_=>by simp [mM,g7,cnt,dG]
 | t+1,ht=>by
  have:=pT (h:=h) k t (by omega)
  unfold mM cnt at this ⊢
  rw [eS,kb (l:=h.ak) (t:=t) k (by omega),sU (h:=h) (t:=t) (by omega),List.length_append,List.length_append,this]
  split <;> rfl
theorem xJ {h:aj} {k:Int} {t:Nat} (ht:t < h.ak.length) (hk:(gi h.ak (t:Int)).aw=k):∀ n:Nat,t < n→gi (mM h k n) (cnt h k t:Int)=(t:Int)
 | 0,hn=>by omega
 | n+1,hn=>by
  have hl:=pT (h:=h) k t (by omega)
  by_cases e:n=t
  ·subst e
   unfold mM at hl ⊢
   rw [eS,sU (h:=h) (by omega),if_pos (by simpa using hk),← hl,om]
  ·have ih:=xJ ht hk n (by omega)
   have gK:(cnt h k t:Int) < (mM h k n).length:=by
    have h1:cnt h k t < (mM h k (t+1)).length:=by
     unfold mM at hl ⊢
     rw [eS,sU (h:=h) (by omega),if_pos (by simpa using hk),List.length_append,hl]
     simp
    have h2:∀ m,t+1≤m→(mM h k (t+1)).length≤(mM h k m).length:=by
     intro m hm
     induction m with
     | zero=>omega
     | succ m NS =>
      by_cases em:m=t
      ·subst em; exact Nat.le_refl _
      ·have:=NS (by omega)
       unfold mM at this ⊢
       rw [eS _ _ m,List.length_append]; omega
    have:=h2 n (by omega)
    omega
   unfold mM at ih gK ⊢
   rw [eS]
   split
   ·rw [oo (by omega) gK]; exact ih
   ·rw [List.append_nil]; exact ih
theorem lb (of:List Int) (k:Int):∀ t:Nat,List.Pairwise (· < ·) (g7 of k t)
 | 0=>by simp [g7]
 | t+1=>by
  rw [eS]
  have ih:=lb of k t
  split
  ·rw [List.pairwise_append]
   refine ⟨ih,by simp,fun a ha b hb=>?_⟩
   rw [List.mem_singleton] at hb
   have:=l7.1 ha
   omega
  ·rw [List.append_nil]; exact ih
theorem rk {l:List Int} (h:List.Pairwise (· < ·) l) {i j:Int} (h0:0≤i) (h1:i < j) (h2:j < l.length):gi l i < gi l j:=by
 rw [jk h0 (by omega),jk (by omega) h2]
 exact List.pairwise_iff_getElem.1 h _ _ _ _ (by omega)
def phi (h:aj) (k:Int) (j:Int):Int:=gi (mM h k h.ak.length) j
def nF (h:aj) (k e:Int):Int:=if e=-1 then -1 else phi h k e
def uB (h:aj) (k:Int) (o:ab):ab:=⟨o.ah,o.Kind,phi h k o.aD,nF h k o.End,o.Result⟩
theorem AA {h:aj} {k:Int} {t:Nat} (ht:t < h.ak.length) (hk:(gi h.ak (t:Int)).aw=k):phi h k (cnt h k t:Int)=(t:Int):=xJ ht hk _ ht
theorem vc {h:aj} {k:Int} {t:Nat} (ht:t < h.ak.length):cnt h k (t+1)=cnt h k t+(if (gi h.ak (t:Int)).aw=k then 1 else 0):=by
 unfold cnt
 rw [kb k ht,List.length_append]
 by_cases e:(gi h.ak (t:Int)).aw=k
 ·rw [if_pos (by simpa using e),if_pos e]; rfl
 ·rw [if_neg (by simpa using e),if_neg e]; rfl
theorem De (h:aj) (k:Int):cnt h k h.ak.length=(dG h.ak k).length:=by unfold cnt; rw [List.take_length]
theorem pV (h:aj) (k j:Int):0≤phi h k j:=by
 unfold phi gi
 rcases Nat.lt_or_ge j.toNat (mM h k h.ak.length).length with e | e
 ·rw [List.getD_eq_getElem?_getD,List.getElem?_eq_getElem e]
  exact (l7.1 (List.getElem_mem e)).1
 ·rw [List.getD_eq_getElem?_getD,List.getElem?_eq_none e]; exact Int.le_refl _
theorem Az {h:aj} {k i j:Int} (h0:0≤i) (h1:i < j) (h2:j < (dG h.ak k).length):phi h k i < phi h k j:=by
 have hl:=pT (h:=h) k h.ak.length (by omega)
 rw [De] at hl
 exact rk (lb _ _ _) h0 h1 (by unfold mM at hl; omega)
theorem rJ {l:List aR} (k:Int) {t:Nat} (ht:t < l.length):dG (l.drop t) k=(if (gi l (t:Int)).aw=k then [(gi l (t:Int)).aK] else [])++dG (l.drop (t+1)) k:=by
 rw [gx ht]
 unfold dG
 rw [List.filter_cons]
 by_cases e:(gi l (t:Int)).aw=k
 ·rw [if_pos (by simpa using e),if_pos e]; rfl
 ·rw [if_neg (by simpa using e),if_neg e]; rfl
theorem uT {h:aj} (p k:Int):∀ (n t:Nat),t+n=h.ak.length→(∀ u:Nat,t≤u→u < h.ak.length→(gi h.ak (u:Int)).aK.ah=p→(∀ v:Nat,t≤v→v < u→(gi h.ak (v:Int)).aK.ah≠p)→(gi h.ak (u:Int)).aw=k) →
  fwd p ((bk h).drop t) (t:Int)=(nF h k (fwd p (dG (h.ak.drop t) k) (cnt h k t:Int)).1,(fwd p (dG (h.ak.drop t) k) (cnt h k t:Int)).2)
 | 0,t,ht,_=>by
  have:t=h.ak.length:=by omega
  subst this
  have e1:(bk h).drop h.ak.length=[]:=List.drop_eq_nil_of_le (by rw [gk]; exact Nat.le_refl _)
  rw [List.drop_length,e1]
  simp [dG,fwd,nF]
 | n+1,t,ht,hC=>by
  have ol:t < h.ak.length:=by omega
  rw [gx (by rw [gk]; exact ol),rJ k ol,nv ol,fwd]
  by_cases hp:(gi h.ak (t:Int)).aK.ah=p
  ·have hk:=hC t (by omega) ol hp (fun v h1 h2=>by omega)
   rw [if_pos hp,if_pos hk,List.singleton_append,fwd,if_pos hp]
   unfold nF
   rw [if_neg (by dsimp only; omega),AA ol hk]
  ·have ih:=uT p k n (t+1) (by omega) (fun u h1 h2 h3 h4=>hC u (by omega) h2 h3 (fun v h5 h6=>by
    by_cases e:v=t
    ·subst e; exact hp
    ·exact h4 v (by omega) h6))
   rw [if_neg hp]
   push_cast at ih
   rw [ih,vc ol]
   by_cases hk:(gi h.ak (t:Int)).aw=k
   ·rw [if_pos hk,if_pos hk,List.singleton_append,fwd,if_neg hp]; push_cast; rfl
   ·rw [if_neg hk,if_neg hk]; rfl
theorem yl {h:aj} {t:Nat} (ht:t < h.ak.length) {p:Int} (hp:(gi h.ak (t:Int)).aK.ah=p):∀ u:Nat,t < u→u≤h.ak.length→(∀ v:Nat,t < v→v < u→(gi h.ak (v:Int)).aK.ah≠p)→dW ((bk h).take u) p=(gi h.ak (t:Int)).aK.bh∧aC (jc (h.ak.take u)) p=some (gi h.ak (t:Int)).aw
 | 0,h1,_,_=>by omega
 | u+1,h1,h2,h3=>by
  rw [uD (by omega),ym (by omega)]
  by_cases e:u=t
  ·subst e
   rw [if_pos hp,if_pos hp.symm]; exact ⟨rfl,rfl⟩
  ·have hne:=h3 u (by omega) (by omega)
   rw [if_neg hne,if_neg (fun hh=>hne hh.symm)]
   exact yl ht hp u (by omega) (by omega) (fun v h4 h5=>h3 v h4 (by omega))
theorem zh {h:aj} (hc:(aA h).2=0) {t:Nat} (ht:t < h.ak.length) (hw:(gi h.ak (t:Int)).aK.bh=1):∀ u:Nat,t+1≤u→u < h.ak.length→(gi h.ak (u:Int)).aK.ah=(gi h.ak (t:Int)).aK.ah→(∀ v:Nat,t+1≤v→v < u→(gi h.ak (v:Int)).aK.ah≠(gi h.ak (t:Int)).aK.ah)→(gi h.ak (u:Int)).aw=(gi h.ak (t:Int)).aw:=by
 intro u h1 h2 h3 h4
 obtain ⟨a,b⟩:=yl ht rfl u (by omega) (by omega) (fun v h5 h6=>h4 v (by omega) h6)
 have hx:=sY hc h2
 have he:=mW (qp hc h2)
 rcases jz hx with ⟨_,w⟩ | ⟨w,_⟩
 ·rw [h3,a] at w; exact absurd hw w
 ·have:=he.2 w
  rw [h3,b] at this
  exact this.symm
theorem AE {h:aj} (hc:(aA h).2=0) (k:Int):∀ (n t:Nat),t+n=h.ak.length →
  (j8 ((bk h).drop t) (t:Int)).filter (fun o=>(gi h.ak o.aD).aw == k)=(j8 (dG (h.ak.drop t) k) (cnt h k t:Int)).map (uB h k)
 | 0,t,ht=>by
  have:t=h.ak.length:=by omega
  subst this
  have e1:(bk h).drop h.ak.length=[]:=List.drop_eq_nil_of_le (by rw [gk]; exact Nat.le_refl _)
  rw [List.drop_length,e1]
  simp [dG,j8]
 | n+1,t,ht=>by
  have ol:t < h.ak.length:=by omega
  have ih:=AE hc k n (t+1) (by omega)
  have Bg:=vc (k:=k) ol
  rw [gx (by rw [gk]; exact ol),rJ k ol,nv ol,j8,List.filter_append]
  push_cast at ih
  rw [ih,Bg]
  by_cases hk:(gi h.ak (t:Int)).aw=k
  ·rw [if_pos hk,if_pos hk,List.singleton_append,j8,List.map_append]
   push_cast
   congr 1
   by_cases hw:(gi h.ak (t:Int)).aK.bh=1
   ·rw [if_pos hw,if_pos hw]
    have hf:=uT (h:=h) (gi h.ak (t:Int)).aK.ah k n (t+1) (by omega) (fun u h1 h2 h3 h4=>by rw [zh hc ol hw u h1 h2 h3 h4,hk])
    push_cast at hf
    rw [Bg,if_pos hk] at hf
    push_cast at hf
    rw [hf,List.filter_cons,if_pos (by simpa using hk)]
    simp [uB,AA ol hk]
   ·rw [if_neg hw,if_neg hw]; rfl
  ·rw [if_neg hk,if_neg hk,List.nil_append]
   have:(if (gi h.ak (t:Int)).aK.bh=1 then [(⟨(gi h.ak (t:Int)).aK.ah,(gi h.ak (t:Int)).aK.N,(t:Int),(fwd (gi h.ak (t:Int)).aK.ah ((bk h).drop (t+1)) ((t:Int)+1)).1,(fwd (gi h.ak (t:Int)).aK.ah ((bk h).drop (t+1)) ((t:Int)+1)).2⟩:ab)] else []).filter (fun o=>(gi h.ak o.aD).aw == k)=[]:=by
    split
    ·rw [List.filter_cons,if_neg (by simpa using hk),List.filter_nil]
    ·rfl
   rw [this,List.nil_append]; rfl
theorem wv {h:aj} (k:Int):dc (bo h) (ofH h) k=(bo h).filter (fun o=>(gi h.ak o.aD).aw == k):=by
 unfold dc bp
 have h1:=ob (fun o:ab=>(gi h.ak o.aD).aw == k) (fun o=>o) (bo h)
 rw [List.map_id',List.map_id'] at h1
 rw [← h1]
 refine rR _ _ (fun j h0 h2=>?_)
 unfold di ofH
 rw [iZ (fun o:ab=>(gi h.ak o.aD).aw) h0 (by omega)]
theorem AD {h:aj} (hc:(aA h).2=0) (k:Int):dc (bo h) (ofH h) k=(opsOf (dG h.ak k)).map (uB h k):=by
 rw [wv]
 unfold bo
 rw [sQ,sQ]
 have:=AE hc k h.ak.length 0 (by omega)
 rw [List.drop_zero,List.drop_zero] at this
 exact this
end Go.Proofs.YteahldlmkheleaaGreat
