/- A part's own operations are its operations in the whole, by other places. -/
import Derived.Test.YteahldlmkheleaaGreatLV21
set_option linter.all false
namespace Go.Proofs.YteahldlmkheleaaGreat
open Go Go.Sv Go.Pu
theorem AN {l:List aw} (hl:l.length≤10000) (h:∀ j:Int,0≤j→j < l.length→evE (gi l j)=0∧((eA (l.take j.toNat) (gi l j).ah == 1) == ((gi l j).bm == 1))=false):(bE l).2=0:=by
 unfold bE
 rw [if_neg (by omega)]
 exact tf l l.length 0 (fun j h0 h1=>h j h0 (by omega))
theorem pd {α:Type} [Inhabited α] {l:List α} {x:α} {j:Int} (h0:0≤j) (h1:j < l.length):gi (l++[x]) j=gi l j:=by
 rw [jP h0 (by simp; omega),jP h0 h1,List.getElem_append_left]
theorem pc {α:Type} [Inhabited α] (l:List α) (x:α):gi (l++[x]) (l.length:Int)=x:=by
 rw [cq _ _ (by simp)]; simp
theorem Er {l:List aw} {x:aw} (h:(bE l).2=0) (hx:rB l x):(bE (l++[x])).2=0:=by
 obtain ⟨h1,h2⟩:=rA h
 refine AN (by rw [List.length_append,List.length_singleton]; have:=hx.2.2; omega) (fun j j0 j1=>?_)
 rw [List.length_append,List.length_singleton] at j1
 by_cases e:j < l.length
 ·rw [pd j0 e,List.take_append_of_le_length (by omega)]
  exact h2 j j0 e
 ·have:j=(l.length:Int):=by omega
  subst this
  rw [pc,show ((l.length:Int)).toNat=l.length by omega,List.take_left]
  exact ⟨hx.1,hx.2.1⟩
theorem xJ (h:ak) (t:Nat):(bo h).take t=(h.al.take t).map (·.aN):=by unfold bo; rw [List.map_take]
theorem og {h:ak} {t:Nat} (ht:t < h.al.length):gi (bo h) (t:Int)=(gi h.al (t:Int)).aN:=jA (fun x:aV=>x.aN) (by omega) (by omega)
theorem rk {h:ak} (hc:(aD h).2=0) {t:Nat} (ht:t < h.al.length):iE h.ae (jF (h.al.take t)) (gi h.al (t:Int))=0:=by
 have go:∀ (n s:Nat),s+n=h.al.length→(hGo h.ae (h.al.drop s) s (jF (h.al.take s))).2=0→∀ u,s≤u→u < h.al.length→iE h.ae (jF (h.al.take u)) (gi h.al (u:Int))=0:=by
  intro n
  induction n with
  | zero=>intro s hs _ u h1 h2; omega
  | succ n ih =>
   intro s hs hg u h1 h2
   rw [rn (by omega)] at hg
   by_cases e:iE h.ae (jF (h.al.take s)) (gi h.al (s:Int))≠0
   ·rw [if_pos e] at hg; exact absurd hg e
   ·rw [if_neg e] at hg
    by_cases hu:u=s
    ·subst hu; omega
    ·refine ih (s+1) (by omega) ?_ u (by omega) h2
     rw [eV (by omega),lF]
     push_cast
     exact hg
 exact go h.al.length 0 (by omega) (iG hc).2.2 t (by omega) ht
theorem nP {os:List ao} {b:List (Int × Int)} {x:aV} (h:iE os b x=0):(0≤x.az∧x.az < os.length)∧(x.aN.bm=2→(aF b x.aN.ah).getD 0=x.az):=by
 unfold iE at h
 by_cases h1:x.az < 0∨x.az≥os.length
 ·rw [if_pos h1] at h; cases h
 ·rw [if_neg h1] at h
  refine ⟨by omega,fun hw=>?_⟩
  by_cases h2:x.aN.bm=2∧(aF b x.aN.ah).getD 0≠x.az
  ·rw [if_pos h2] at h; cases h
  ·exact Decidable.of_not_not (fun hh=>h2 ⟨hw,hh⟩)
theorem ud {h:ak} (hc:(aD h).2=0) {t:Nat} (ht:t < h.al.length):rB ((bo h).take t) (gi h.al (t:Int)).aN:=by
 have:=qk (iG hc).1 (k:=t) (by rw [gI]; exact ht)
 rwa [og ht] at this
theorem zO {l:List aV} {t:Nat} (ht:t < l.length) (p:Int):aF (jF (l.take (t+1))) p=if p=(gi l (t:Int)).aN.ah then some (gi l (t:Int)).az else aF (jF (l.take t)) p:=by
 rw [eV ht,lF,fc]
theorem vG {h:ak} {t:Nat} (ht:t < h.al.length) (p:Int):eA ((bo h).take (t+1)) p=if (gi h.al (t:Int)).aN.ah=p then (gi h.al (t:Int)).aN.bm else eA ((bo h).take t) p:=by
 rw [eV (by rw [gI]; exact ht),fk,og ht]
theorem sN {h:ak} (hc:(aD h).2=0) (p k:Int):∀ t:Nat,t≤h.al.length→(eA (dR (h.al.take t) k) p=1↔(eA ((bo h).take t) p=1∧aF (jF (h.al.take t)) p=some k))
 | 0,_=>by simp [dR,eA]
 | t+1,ht=>by
  have ih:=sN hc p k t (by omega)
  have hx:=ud hc (t:=t) (by omega)
  have he:=nP (rk hc (t:=t) (by omega))
  rw [kT k (by omega),vG (by omega),zO (by omega)]
  generalize gi h.al (t:Int)=x at *
  by_cases hp:x.aN.ah=p
  ·subst hp
   rw [if_pos rfl,if_pos rfl]
   by_cases hk:x.az=k
   ·rw [if_pos (by simpa using hk),fk,if_pos rfl,hk]; simp
   ·rw [if_neg (by simpa using hk),List.append_nil]
    refine ⟨fun hh=>?_,fun hh=>absurd (Option.some.inj hh.2) hk⟩
    obtain ⟨a,b⟩:=ih.1 hh
    rcases ka hx with ⟨_,w⟩ | ⟨w,_⟩
    ·exact absurd a w
    ·have:=he.2 w
     rw [b] at this
     exact absurd this.symm hk
  ·rw [if_neg hp,if_neg (show ¬ p=x.aN.ah from fun hh=>hp hh.symm),← ih]
   split
   ·rw [fk,if_neg hp]
   ·rw [List.append_nil]
theorem qN {h:ak} (hc:(aD h).2=0) (k:Int):∀ t:Nat,t≤h.al.length→(bE (dR (h.al.take t) k)).2=0
 | 0,_=>by
  show (bE []).2=0
  decide
 | t+1,ht=>by
  have ih:=qN hc k t (by omega)
  have hx:=ud hc (t:=t) (by omega)
  have he:=nP (rk hc (t:=t) (by omega))
  have hl:=sN hc (gi h.al (t:Int)).aN.ah k t (by omega)
  have h10:=(qf (iG hc).1).2
  rw [gI] at h10
  have hle:=xL h.al k t
  rw [kT k (by omega)]
  generalize gi h.al (t:Int)=x at *
  by_cases hk:x.az=k
  ·rw [if_pos (by simpa using hk)]
   refine Er ih ⟨hx.1,?_,by omega⟩
   rcases ka hx with ⟨w1,w2⟩ | ⟨w1,w2⟩
   ·have:¬ eA (dR (h.al.take t) k) x.aN.ah=1:=fun hh=>w2 (hl.1 hh).1
    rw [w1]; simpa using this
   ·have hs:=tn x.aN.ah (h.al.take t) (by rw [← xJ]; exact w2)
    obtain ⟨v,hv⟩:=Option.isSome_iff_exists.1 hs
    have h2:=he.2 w1
    rw [hv] at h2
    have h2:v=x.az:=h2
    have:eA (dR (h.al.take t) k) x.aN.ah=1:=hl.2 ⟨w2,by rw [hv,h2,hk]⟩
    rw [w1,this]; decide
  ·rw [if_neg (by simpa using hk),List.append_nil]; exact ih
theorem tT {h:ak} (hc:(aD h).2=0) (k:Int):(bE (dR h.al k)).2=0:=by
 have:=qN hc k h.al.length (by omega)
 rwa [List.take_length] at this
def nF (h:ak) (k:Int) (t:Nat):List Int:=ix (h.al.map (·.az)) k t
def cnt (h:ak) (k:Int) (t:Nat):Nat:=(dR (h.al.take t) k).length
theorem tZ {h:ak} {t:Nat} (ht:t < h.al.length):gi (h.al.map (·.az)) (t:Int)=(gi h.al (t:Int)).az:=jA (fun x:aV=>x.az) (by omega) (by omega)
theorem qI {h:ak} (k:Int):∀ t:Nat,t≤h.al.length→(nF h k t).length=cnt h k t
 | 0,_=>by simp [nF,ix,cnt,dR]
 | t+1,ht=>by
  have:=qI (h:=h) k t (by omega)
  unfold nF cnt at this ⊢
  rw [fg,kT (l:=h.al) (t:=t) k (by omega),tZ (h:=h) (t:=t) (by omega),List.length_append,List.length_append,this]
  split <;> rfl
theorem zd {h:ak} {k:Int} {t:Nat} (ht:t < h.al.length) (hk:(gi h.al (t:Int)).az=k):∀ n:Nat,t < n→gi (nF h k n) (cnt h k t:Int)=(t:Int)
 | 0,hn=>by omega
 | n+1,hn=>by
  have hl:=qI (h:=h) k t (by omega)
  by_cases e:n=t
  ·subst e
   unfold nF at hl ⊢
   rw [fg,tZ (h:=h) (by omega),if_pos (by simpa using hk),← hl,pc]
  ·have ih:=zd ht hk n (by omega)
   have hX:(cnt h k t:Int) < (nF h k n).length:=by
    have h1:cnt h k t < (nF h k (t+1)).length:=by
     unfold nF at hl ⊢
     rw [fg,tZ (h:=h) (by omega),if_pos (by simpa using hk),List.length_append,hl]
     simp
    have h2:∀ m,t+1≤m→(nF h k (t+1)).length≤(nF h k m).length:=by
     intro m hm
     induction m with
     | zero=>omega
     | succ m Pn =>
      by_cases em:m=t
      ·subst em; exact Nat.le_refl _
      ·have:=Pn (by omega)
       unfold nF at this ⊢
       rw [fg _ _ m,List.length_append]; omega
    have:=h2 n (by omega)
    omega
   unfold nF at ih hX ⊢
   rw [fg]
   split
   ·rw [pd (by omega) hX]; exact ih
   ·rw [List.append_nil]; exact ih
theorem lQ (of:List Int) (k:Int):∀ t:Nat,List.Pairwise (· < ·) (ix of k t)
 | 0=>by simp [ix]
 | t+1=>by
  rw [fg]
  have ih:=lQ of k t
  split
  ·rw [List.pairwise_append]
   refine ⟨ih,by simp,fun a ha b hb=>?_⟩
   rw [List.mem_singleton] at hb
   have:=mQ.1 ha
   omega
  ·rw [List.append_nil]; exact ih
theorem sn {l:List Int} (h:List.Pairwise (· < ·) l) {i j:Int} (h0:0≤i) (h1:i < j) (h2:j < l.length):gi l i < gi l j:=by
 rw [jP h0 (by omega),jP (by omega) h2]
 exact List.pairwise_iff_getElem.1 h _ _ _ _ (by omega)
def phi (h:ak) (k:Int) (j:Int):Int:=gi (nF h k h.al.length) j
def ox (h:ak) (k e:Int):Int:=if e=-1 then -1 else phi h k e
def vE (h:ak) (k:Int) (o:ab):ab:=⟨o.ah,o.Kind,phi h k o.aG,ox h k o.End,o.Result⟩
theorem BP {h:ak} {k:Int} {t:Nat} (ht:t < h.al.length) (hk:(gi h.al (t:Int)).az=k):phi h k (cnt h k t:Int)=(t:Int):=zd ht hk _ ht
theorem wu {h:ak} {k:Int} {t:Nat} (ht:t < h.al.length):cnt h k (t+1)=cnt h k t+(if (gi h.al (t:Int)).az=k then 1 else 0):=by
 unfold cnt
 rw [kT k ht,List.length_append]
 by_cases e:(gi h.al (t:Int)).az=k
 ·rw [if_pos (by simpa using e),if_pos e]; rfl
 ·rw [if_neg (by simpa using e),if_neg e]; rfl
theorem Et (h:ak) (k:Int):cnt h k h.al.length=(dR h.al k).length:=by unfold cnt; rw [List.take_length]
theorem qK (h:ak) (k j:Int):0≤phi h k j:=by
 unfold phi gi
 rcases Nat.lt_or_ge j.toNat (nF h k h.al.length).length with e | e
 ·rw [List.getD_eq_getElem?_getD,List.getElem?_eq_getElem e]
  exact (mQ.1 (List.getElem_mem e)).1
 ·rw [List.getD_eq_getElem?_getD,List.getElem?_eq_none e]; exact Int.le_refl _
theorem BO {h:ak} {k i j:Int} (h0:0≤i) (h1:i < j) (h2:j < (dR h.al k).length):phi h k i < phi h k j:=by
 have hl:=qI (h:=h) k h.al.length (by omega)
 rw [Et] at hl
 exact sn (lQ _ _ _) h0 h1 (by unfold nF at hl; omega)
theorem sO {l:List aV} (k:Int) {t:Nat} (ht:t < l.length):dR (l.drop t) k=(if (gi l (t:Int)).az=k then [(gi l (t:Int)).aN] else [])++dR (l.drop (t+1)) k:=by
 rw [gU ht]
 unfold dR
 rw [List.filter_cons]
 by_cases e:(gi l (t:Int)).az=k
 ·rw [if_pos (by simpa using e),if_pos e]; rfl
 ·rw [if_neg (by simpa using e),if_neg e]; rfl
theorem vZ {h:ak} (p k:Int):∀ (n t:Nat),t+n=h.al.length→(∀ u:Nat,t≤u→u < h.al.length→(gi h.al (u:Int)).aN.ah=p→(∀ v:Nat,t≤v→v < u→(gi h.al (v:Int)).aN.ah≠p)→(gi h.al (u:Int)).az=k) →
  fwd p ((bo h).drop t) (t:Int)=(ox h k (fwd p (dR (h.al.drop t) k) (cnt h k t:Int)).1,(fwd p (dR (h.al.drop t) k) (cnt h k t:Int)).2)
 | 0,t,ht,_=>by
  have:t=h.al.length:=by omega
  subst this
  have e1:(bo h).drop h.al.length=[]:=List.drop_eq_nil_of_le (by rw [gI]; exact Nat.le_refl _)
  rw [List.drop_length,e1]
  simp [dR,fwd,ox]
 | n+1,t,ht,hC=>by
  have pb:t < h.al.length:=by omega
  rw [gU (by rw [gI]; exact pb),sO k pb,og pb,fwd]
  by_cases hp:(gi h.al (t:Int)).aN.ah=p
  ·have hk:=hC t (by omega) pb hp (fun v h1 h2=>by omega)
   rw [if_pos hp,if_pos hk,List.singleton_append,fwd,if_pos hp]
   unfold ox
   rw [if_neg (by dsimp only; omega),BP pb hk]
  ·have ih:=vZ p k n (t+1) (by omega) (fun u h1 h2 h3 h4=>hC u (by omega) h2 h3 (fun v h5 h6=>by
    by_cases e:v=t
    ·subst e; exact hp
    ·exact h4 v (by omega) h6))
   rw [if_neg hp]
   push_cast at ih
   rw [ih,wu pb]
   by_cases hk:(gi h.al (t:Int)).az=k
   ·rw [if_pos hk,if_pos hk,List.singleton_append,fwd,if_neg hp]; push_cast; rfl
   ·rw [if_neg hk,if_neg hk]; rfl
theorem zN {h:ak} {t:Nat} (ht:t < h.al.length) {p:Int} (hp:(gi h.al (t:Int)).aN.ah=p):∀ u:Nat,t < u→u≤h.al.length→(∀ v:Nat,t < v→v < u→(gi h.al (v:Int)).aN.ah≠p)→eA ((bo h).take u) p=(gi h.al (t:Int)).aN.bm∧aF (jF (h.al.take u)) p=some (gi h.al (t:Int)).az
 | 0,h1,_,_=>by omega
 | u+1,h1,h2,h3=>by
  rw [vG (by omega),zO (by omega)]
  by_cases e:u=t
  ·subst e
   rw [if_pos hp,if_pos hp.symm]; exact ⟨rfl,rfl⟩
  ·have hne:=h3 u (by omega) (by omega)
   rw [if_neg hne,if_neg (fun hh=>hne hh.symm)]
   exact zN ht hp u (by omega) (by omega) (fun v h4 h5=>h3 v h4 (by omega))
theorem Ay {h:ak} (hc:(aD h).2=0) {t:Nat} (ht:t < h.al.length) (hw:(gi h.al (t:Int)).aN.bm=1):∀ u:Nat,t+1≤u→u < h.al.length→(gi h.al (u:Int)).aN.ah=(gi h.al (t:Int)).aN.ah→(∀ v:Nat,t+1≤v→v < u→(gi h.al (v:Int)).aN.ah≠(gi h.al (t:Int)).aN.ah)→(gi h.al (u:Int)).az=(gi h.al (t:Int)).az:=by
 intro u h1 h2 h3 h4
 obtain ⟨a,b⟩:=zN ht rfl u (by omega) (by omega) (fun v h5 h6=>h4 v (by omega) h6)
 have hx:=ud hc h2
 have he:=nP (rk hc h2)
 rcases ka hx with ⟨_,w⟩ | ⟨w,_⟩
 ·rw [h3,a] at w; exact absurd hw w
 ·have:=he.2 w
  rw [h3,b] at this
  exact this.symm
theorem BS {h:ak} (hc:(aD h).2=0) (k:Int):∀ (n t:Nat),t+n=h.al.length →
  (kQ ((bo h).drop t) (t:Int)).filter (fun o=>(gi h.al o.aG).az == k)=(kQ (dR (h.al.drop t) k) (cnt h k t:Int)).map (vE h k)
 | 0,t,ht=>by
  have:t=h.al.length:=by omega
  subst this
  have e1:(bo h).drop h.al.length=[]:=List.drop_eq_nil_of_le (by rw [gI]; exact Nat.le_refl _)
  rw [List.drop_length,e1]
  simp [dR,kQ]
 | n+1,t,ht=>by
  have pb:t < h.al.length:=by omega
  have ih:=BS hc k n (t+1) (by omega)
  have Cv:=wu (k:=k) pb
  rw [gU (by rw [gI]; exact pb),sO k pb,og pb,kQ,List.filter_append]
  push_cast at ih
  rw [ih,Cv]
  by_cases hk:(gi h.al (t:Int)).az=k
  ·rw [if_pos hk,if_pos hk,List.singleton_append,kQ,List.map_append]
   push_cast
   congr 1
   by_cases hw:(gi h.al (t:Int)).aN.bm=1
   ·rw [if_pos hw,if_pos hw]
    have hf:=vZ (h:=h) (gi h.al (t:Int)).aN.ah k n (t+1) (by omega) (fun u h1 h2 h3 h4=>by rw [Ay hc pb hw u h1 h2 h3 h4,hk])
    push_cast at hf
    rw [Cv,if_pos hk] at hf
    push_cast at hf
    rw [hf,List.filter_cons,if_pos (by simpa using hk)]
    simp [vE,BP pb hk]
   ·rw [if_neg hw,if_neg hw]; rfl
  ·rw [if_neg hk,if_neg hk,List.nil_append]
   have:(if (gi h.al (t:Int)).aN.bm=1 then [(⟨(gi h.al (t:Int)).aN.ah,(gi h.al (t:Int)).aN.N,(t:Int),(fwd (gi h.al (t:Int)).aN.ah ((bo h).drop (t+1)) ((t:Int)+1)).1,(fwd (gi h.al (t:Int)).aN.ah ((bo h).drop (t+1)) ((t:Int)+1)).2⟩:ab)] else []).filter (fun o=>(gi h.al o.aG).az == k)=[]:=by
    split
    ·rw [List.filter_cons,if_neg (by simpa using hk),List.filter_nil]
    ·rfl
   rw [this,List.nil_append]; rfl
theorem xM {h:ak} (k:Int):dn (bw h) (ofH h) k=(bw h).filter (fun o=>(gi h.al o.aG).az == k):=by
 unfold dn bz
 have h1:=o6 (fun o:ab=>(gi h.al o.aG).az == k) (fun o=>o) (bw h)
 rw [List.map_id',List.map_id'] at h1
 rw [← h1]
 refine sV _ _ (fun j h0 h2=>?_)
 unfold du ofH
 rw [jA (fun o:ab=>(gi h.al o.aG).az) h0 (by omega)]
theorem BR {h:ak} (hc:(aD h).2=0) (k:Int):dn (bw h) (ofH h) k=(opsOf (dR h.al k)).map (vE h k):=by
 rw [xM]
 unfold bw
 rw [tW,tW]
 have:=BS hc k h.al.length 0 (by omega)
 rw [List.drop_zero,List.drop_zero] at this
 exact this
end Go.Proofs.YteahldlmkheleaaGreat
