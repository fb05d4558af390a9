/- Lemmas. -/
import Derived.Test.YteahldlmkheleaaGreatLV21
set_option linter.all false
namespace Go.Proofs.YteahldlmkheleaaGreat
open Go Go.Sv Go.Pu
theorem Ak {l:List au} (hl:l.length≤10000) (h:∀ j:Int,0≤j→j < l.length→evE (gi l j)=0∧((eA (l.take j.toNat) (gi l j).aj == 1) == ((gi l j).bh == 1))=false):(bA l).2=0:=by
 unfold bA
 rw [if_neg (by omega)]
 exact sG l l.length 0 (fun j h0 h1=>h j h0 (by omega))
theorem sB {α:Type} [Inhabited α] {l:List α} {x:α} {j:Int} (h0:0≤j) (h1:j < l.length):gi (l++[x]) j=gi l j:=by
 rw [jD h0 (by simp; omega),jD h0 h1,List.getElem_append_left]
theorem sA {α:Type} [Inhabited α] (l:List α) (x:α):gi (l++[x]) (l.length:Int)=x:=by
 rw [cN _ _ (by simp)]; simp
theorem Et {l:List au} {x:au} (h:(bA l).2=0) (hx:q6 l x):(bA (l++[x])).2=0:=by
 obtain ⟨h1,h2⟩:=q5 h
 refine Ak (by rw [List.length_append,List.length_singleton]; have:=hx.2.2; omega) (fun j j0 j1=>?_)
 rw [List.length_append,List.length_singleton] at j1
 by_cases e:j < l.length
 ·rw [sB j0 e,List.take_append_of_le_length (by omega)]
  exact h2 j j0 e
 ·have:j=(l.length:Int):=by omega
  subst this
  rw [sA,show ((l.length:Int)).toNat=l.length by omega,List.take_left]
  exact ⟨hx.1,hx.2.1⟩
theorem wU (h:ak) (t:Nat):(bl h).take t=(h.al.take t).map (·.aI):=by unfold bl; rw [List.map_take]
theorem nP {h:ak} {t:Nat} (ht:t < h.al.length):gi (bl h) (t:Int)=(gi h.al (t:Int)).aI:=kW (fun x:aR=>x.aI) (by omega) (by omega)
theorem qP {h:ak} (hc:(aB h).2=0) {t:Nat} (ht:t < h.al.length):iI h.ah (jt (h.al.take t)) (gi h.al (t:Int))=0:=by
 have go:∀ (n s:Nat),s+n=h.al.length→(hGo h.ah (h.al.drop s) s (jt (h.al.take s))).2=0→∀ u,s≤u→u < h.al.length→iI h.ah (jt (h.al.take u)) (gi h.al (u:Int))=0:=by
  intro n
  induction n with
  | zero=>intro s hs _ u h1 h2; omega
  | succ n ih =>
   intro s hs hg u h1 h2
   rw [qS (by omega)] at hg
   by_cases e:iI h.ah (jt (h.al.take s)) (gi h.al (s:Int))≠0
   ·rw [if_pos e] at hg; exact absurd hg e
   ·rw [if_neg e] at hg
    by_cases hu:u=s
    ·subst hu; omega
    ·refine ih (s+1) (by omega) ?_ u (by omega) h2
     rw [eJ (by omega),lB]
     push_cast
     exact hg
 exact go h.al.length 0 (by omega) (iZ hc).2.2 t (by omega) ht
theorem ns {os:List ae} {b:List (Int × Int)} {x:aR} (h:iI os b x=0):(0≤x.ax∧x.ax < os.length)∧(x.aI.bh=2→(aF b x.aI.aj).getD 0=x.ax):=by
 unfold iI at h
 by_cases h1:x.ax < 0∨x.ax≥os.length
 ·rw [if_pos h1] at h; cases h
 ·rw [if_neg h1] at h
  refine ⟨by omega,fun hw=>?_⟩
  by_cases h2:x.aI.bh=2∧(aF b x.aI.aj).getD 0≠x.ax
  ·rw [if_pos h2] at h; cases h
  ·exact Decidable.of_not_not (fun hh=>h2 ⟨hw,hh⟩)
theorem tC {h:ak} (hc:(aB h).2=0) {t:Nat} (ht:t < h.al.length):q6 ((bl h).take t) (gi h.al (t:Int)).aI:=by
 have:=pV (iZ hc).1 (k:=t) (by rw [gp]; exact ht)
 rwa [nP ht] at this
theorem za {l:List aR} {t:Nat} (ht:t < l.length) (p:Int):aF (jt (l.take (t+1))) p=if p=(gi l (t:Int)).aI.aj then some (gi l (t:Int)).ax else aF (jt (l.take t)) p:=by
 rw [eJ ht,lB,eX]
theorem u5 {h:ak} {t:Nat} (ht:t < h.al.length) (p:Int):eA ((bl h).take (t+1)) p=if (gi h.al (t:Int)).aI.aj=p then (gi h.al (t:Int)).aI.bh else eA ((bl h).take t) p:=by
 rw [eJ (by rw [gp]; exact ht),e8,nP ht]
theorem sc {h:ak} (hc:(aB h).2=0) (p k:Int):∀ t:Nat,t≤h.al.length→(eA (dt (h.al.take t) k) p=1↔(eA ((bl h).take t) p=1∧aF (jt (h.al.take t)) p=some k))
 | 0,_=>by simp [dt,eA]
 | t+1,ht=>by
  have ih:=sc hc p k t (by omega)
  have hx:=tC hc (t:=t) (by omega)
  have he:=ns (qP hc (t:=t) (by omega))
  rw [jd k (by omega),u5 (by omega),za (by omega)]
  generalize gi h.al (t:Int)=x at *
  by_cases hp:x.aI.aj=p
  ·subst hp
   rw [if_pos rfl,if_pos rfl]
   by_cases hk:x.ax=k
   ·rw [if_pos (by simpa using hk),e8,if_pos rfl,hk]; simp
   ·rw [if_neg (by simpa using hk),List.append_nil]
    refine ⟨fun hh=>?_,fun hh=>absurd (Option.some.inj hh.2) hk⟩
    obtain ⟨a,b⟩:=ih.1 hh
    rcases jY hx with ⟨_,w⟩ | ⟨w,_⟩
    ·exact absurd a w
    ·have:=he.2 w
     rw [b] at this
     exact absurd this.symm hk
  ·rw [if_neg hp,if_neg (show ¬ p=x.aI.aj from fun hh=>hp hh.symm),← ih]
   split
   ·rw [e8,if_neg hp]
   ·rw [List.append_nil]
theorem qt {h:ak} (hc:(aB h).2=0) (k:Int):∀ t:Nat,t≤h.al.length→(bA (dt (h.al.take t) k)).2=0
 | 0,_=>by
  show (bA []).2=0
  decide
 | t+1,ht=>by
  have ih:=qt hc k t (by omega)
  have hx:=tC hc (t:=t) (by omega)
  have he:=ns (qP hc (t:=t) (by omega))
  have hl:=sc hc (gi h.al (t:Int)).aI.aj k t (by omega)
  have h10:=(pN (iZ hc).1).2
  rw [gp] at h10
  have hle:=qu h.al k t
  rw [jd k (by omega)]
  generalize gi h.al (t:Int)=x at *
  by_cases hk:x.ax=k
  ·rw [if_pos (by simpa using hk)]
   refine Et ih ⟨hx.1,?_,by omega⟩
   rcases jY hx with ⟨w1,w2⟩ | ⟨w1,w2⟩
   ·have:¬ eA (dt (h.al.take t) k) x.aI.aj=1:=fun hh=>w2 (hl.1 hh).1
    rw [w1]; simpa using this
   ·have hs:=sO x.aI.aj (h.al.take t) (by rw [← wU]; exact w2)
    obtain ⟨v,hv⟩:=Option.isSome_iff_exists.1 hs
    have h2:=he.2 w1
    rw [hv] at h2
    have h2:v=x.ax:=h2
    have:eA (dt (h.al.take t) k) x.aI.aj=1:=hl.2 ⟨w2,by rw [hv,h2,hk]⟩
    rw [w1,this]; decide
  ·rw [if_neg (by simpa using hk),List.append_nil]; exact ih
theorem tt {h:ak} (hc:(aB h).2=0) (k:Int):(bA (dt h.al k)).2=0:=by
 have:=qt hc k h.al.length (by omega)
 rwa [List.take_length] at this
def nh (h:ak) (k:Int) (t:Nat):List Int:=jX (h.al.map (·.ax)) k t
def cnt (h:ak) (k:Int) (t:Nat):Nat:=(dt (h.al.take t) k).length
theorem tA {h:ak} {t:Nat} (ht:t < h.al.length):gi (h.al.map (·.ax)) (t:Int)=(gi h.al (t:Int)).ax:=kW (fun x:aR=>x.ax) (by omega) (by omega)
theorem qn {h:ak} (k:Int):∀ t:Nat,t≤h.al.length→(nh h k t).length=cnt h k t
 | 0,_=>by simp [nh,jX,cnt,dt]
 | t+1,ht=>by
  have:=qn (h:=h) k t (by omega)
  unfold nh cnt at this ⊢
  rw [fK,jd (l:=h.al) (t:=t) k (by omega),tA (h:=h) (t:=t) (by omega),List.length_append,List.length_append,this]
  split <;> rfl
theorem yo {h:ak} {k:Int} {t:Nat} (ht:t < h.al.length) (hk:(gi h.al (t:Int)).ax=k):∀ n:Nat,t < n→gi (nh h k n) (cnt h k t:Int)=(t:Int)
 | 0,hn=>by omega
 | n+1,hn=>by
  have hl:=qn (h:=h) k t (by omega)
  by_cases e:n=t
  ·subst e
   unfold nh at hl ⊢
   rw [fK,tA (h:=h) (by omega),if_pos (by simpa using hk),← hl,sA]
  ·have ih:=yo ht hk n (by omega)
   have gM:(cnt h k t:Int) < (nh h k n).length:=by
    have h1:cnt h k t < (nh h k (t+1)).length:=by
     unfold nh at hl ⊢
     rw [fK,tA (h:=h) (by omega),if_pos (by simpa using hk),List.length_append,hl]
     simp
    have h2:∀ m,t+1≤m→(nh h k (t+1)).length≤(nh h k m).length:=by
     intro m hm
     induction m with
     | zero=>omega
     | succ m Pm =>
      by_cases em:m=t
      ·subst em; exact Nat.le_refl _
      ·have:=Pm (by omega)
       unfold nh at this ⊢
       rw [fK _ _ m,List.length_append]; omega
    have:=h2 n (by omega)
    omega
   unfold nh at ih gM ⊢
   rw [fK]
   split
   ·rw [sB (by omega) gM]; exact ih
   ·rw [List.append_nil]; exact ih
theorem lJ (of:List Int) (k:Int):∀ t:Nat,List.Pairwise (· < ·) (jX of k t)
 | 0=>by simp [jX]
 | t+1=>by
  rw [fK]
  have ih:=lJ of k t
  split
  ·rw [List.pairwise_append]
   refine ⟨ih,by simp,fun a ha b hb=>?_⟩
   rw [List.mem_singleton] at hb
   have:=oM.1 ha
   omega
  ·rw [List.append_nil]; exact ih
theorem rR {l:List Int} (h:List.Pairwise (· < ·) l) {i j:Int} (h0:0≤i) (h1:i < j) (h2:j < l.length):gi l i < gi l j:=by
 rw [jD h0 (by omega),jD (by omega) h2]
 exact List.pairwise_iff_getElem.1 h _ _ _ _ (by omega)
def phi (h:ak) (k:Int) (j:Int):Int:=gi (nh h k h.al.length) j
def nY (h:ak) (k e:Int):Int:=if e=-1 then -1 else phi h k e
def uZ (h:ak) (k:Int) (o:ab):ab:=⟨o.aj,o.Kind,phi h k o.aE,nY h k o.End,o.Result⟩
theorem Bt {h:ak} {k:Int} {t:Nat} (ht:t < h.al.length) (hk:(gi h.al (t:Int)).ax=k):phi h k (cnt h k t:Int)=(t:Int):=yo ht hk _ ht
theorem vG {h:ak} {k:Int} {t:Nat} (ht:t < h.al.length):cnt h k (t+1)=cnt h k t+(if (gi h.al (t:Int)).ax=k then 1 else 0):=by
 unfold cnt
 rw [jd k ht,List.length_append]
 by_cases e:(gi h.al (t:Int)).ax=k
 ·rw [if_pos (by simpa using e),if_pos e]; rfl
 ·rw [if_neg (by simpa using e),if_neg e]; rfl
theorem Ew (h:ak) (k:Int):cnt h k h.al.length=(dt h.al k).length:=by unfold cnt; rw [List.take_length]
theorem qo (h:ak) (k j:Int):0≤phi h k j:=by
 unfold phi gi
 rcases Nat.lt_or_ge j.toNat (nh h k h.al.length).length with e | e
 ·rw [List.getD_eq_getElem?_getD,List.getElem?_eq_getElem e]
  exact (oM.1 (List.getElem_mem e)).1
 ·rw [List.getD_eq_getElem?_getD,List.getElem?_eq_none e]; exact Int.le_refl _
theorem Bs {h:ak} {k i j:Int} (h0:0≤i) (h1:i < j) (h2:j < (dt h.al k).length):phi h k i < phi h k j:=by
 have hl:=qn (h:=h) k h.al.length (by omega)
 rw [Ew] at hl
 exact rR (lJ _ _ _) h0 h1 (by unfold nh at hl; omega)
theorem sd {l:List aR} (k:Int) {t:Nat} (ht:t < l.length):dt (l.drop t) k=(if (gi l (t:Int)).ax=k then [(gi l (t:Int)).aI] else [])++dt (l.drop (t+1)) k:=by
 rw [fT ht]
 unfold dt
 rw [List.filter_cons]
 by_cases e:(gi l (t:Int)).ax=k
 ·rw [if_pos (by simpa using e),if_pos e]; rfl
 ·rw [if_neg (by simpa using e),if_neg e]; rfl
theorem vq {h:ak} (p k:Int):∀ (n t:Nat),t+n=h.al.length→(∀ u:Nat,t≤u→u < h.al.length→(gi h.al (u:Int)).aI.aj=p→(∀ v:Nat,t≤v→v < u→(gi h.al (v:Int)).aI.aj≠p)→(gi h.al (u:Int)).ax=k) →
  fwd p ((bl h).drop t) (t:Int)=(nY h k (fwd p (dt (h.al.drop t) k) (cnt h k t:Int)).1,(fwd p (dt (h.al.drop t) k) (cnt h k t:Int)).2)
 | 0,t,ht,_=>by
  have:t=h.al.length:=by omega
  subst this
  have e1:(bl h).drop h.al.length=[]:=List.drop_eq_nil_of_le (by rw [gp]; exact Nat.le_refl _)
  rw [List.drop_length,e1]
  simp [dt,fwd,nY]
 | n+1,t,ht,hC=>by
  have oQ:t < h.al.length:=by omega
  rw [fT (by rw [gp]; exact oQ),sd k oQ,nP oQ,fwd]
  by_cases hp:(gi h.al (t:Int)).aI.aj=p
  ·have hk:=hC t (by omega) oQ hp (fun v h1 h2=>by omega)
   rw [if_pos hp,if_pos hk,List.singleton_append,fwd,if_pos hp]
   unfold nY
   rw [if_neg (by dsimp only; omega),Bt oQ hk]
  ·have ih:=vq p k n (t+1) (by omega) (fun u h1 h2 h3 h4=>hC u (by omega) h2 h3 (fun v h5 h6=>by
    by_cases e:v=t
    ·subst e; exact hp
    ·exact h4 v (by omega) h6))
   rw [if_neg hp]
   push_cast at ih
   rw [ih,vG oQ]
   by_cases hk:(gi h.al (t:Int)).ax=k
   ·rw [if_pos hk,if_pos hk,List.singleton_append,fwd,if_neg hp]; push_cast; rfl
   ·rw [if_neg hk,if_neg hk]; rfl
theorem yZ {h:ak} {t:Nat} (ht:t < h.al.length) {p:Int} (hp:(gi h.al (t:Int)).aI.aj=p):∀ u:Nat,t < u→u≤h.al.length→(∀ v:Nat,t < v→v < u→(gi h.al (v:Int)).aI.aj≠p)→eA ((bl h).take u) p=(gi h.al (t:Int)).aI.bh∧aF (jt (h.al.take u)) p=some (gi h.al (t:Int)).ax
 | 0,h1,_,_=>by omega
 | u+1,h1,h2,h3=>by
  rw [u5 (by omega),za (by omega)]
  by_cases e:u=t
  ·subst e
   rw [if_pos hp,if_pos hp.symm]; exact ⟨rfl,rfl⟩
  ·have hne:=h3 u (by omega) (by omega)
   rw [if_neg hne,if_neg (fun hh=>hne hh.symm)]
   exact yZ ht hp u (by omega) (by omega) (fun v h4 h5=>h3 v h4 (by omega))
theorem zZ {h:ak} (hc:(aB h).2=0) {t:Nat} (ht:t < h.al.length) (hw:(gi h.al (t:Int)).aI.bh=1):∀ u:Nat,t+1≤u→u < h.al.length→(gi h.al (u:Int)).aI.aj=(gi h.al (t:Int)).aI.aj→(∀ v:Nat,t+1≤v→v < u→(gi h.al (v:Int)).aI.aj≠(gi h.al (t:Int)).aI.aj)→(gi h.al (u:Int)).ax=(gi h.al (t:Int)).ax:=by
 intro u h1 h2 h3 h4
 obtain ⟨a,b⟩:=yZ ht rfl u (by omega) (by omega) (fun v h5 h6=>h4 v (by omega) h6)
 have hx:=tC hc h2
 have he:=ns (qP hc h2)
 rcases jY hx with ⟨_,w⟩ | ⟨w,_⟩
 ·rw [h3,a] at w; exact absurd hw w
 ·have:=he.2 w
  rw [h3,b] at this
  exact this.symm
theorem Bx {h:ak} (hc:(aB h).2=0) (k:Int):∀ (n t:Nat),t+n=h.al.length →
  (kH ((bl h).drop t) (t:Int)).filter (fun o=>(gi h.al o.aE).ax == k)=(kH (dt (h.al.drop t) k) (cnt h k t:Int)).map (uZ h k)
 | 0,t,ht=>by
  have:t=h.al.length:=by omega
  subst this
  have e1:(bl h).drop h.al.length=[]:=List.drop_eq_nil_of_le (by rw [gp]; exact Nat.le_refl _)
  rw [List.drop_length,e1]
  simp [dt,kH]
 | n+1,t,ht=>by
  have oQ:t < h.al.length:=by omega
  have ih:=Bx hc k n (t+1) (by omega)
  have Cl:=vG (k:=k) oQ
  rw [fT (by rw [gp]; exact oQ),sd k oQ,nP oQ,kH,List.filter_append]
  push_cast at ih
  rw [ih,Cl]
  by_cases hk:(gi h.al (t:Int)).ax=k
  ·rw [if_pos hk,if_pos hk,List.singleton_append,kH,List.map_append]
   push_cast
   congr 1
   by_cases hw:(gi h.al (t:Int)).aI.bh=1
   ·rw [if_pos hw,if_pos hw]
    have hf:=vq (h:=h) (gi h.al (t:Int)).aI.aj k n (t+1) (by omega) (fun u h1 h2 h3 h4=>by rw [zZ hc oQ hw u h1 h2 h3 h4,hk])
    push_cast at hf
    rw [Cl,if_pos hk] at hf
    push_cast at hf
    rw [hf,List.filter_cons,if_pos (by simpa using hk)]
    simp [uZ,Bt oQ hk]
   ·rw [if_neg hw,if_neg hw]; rfl
  ·rw [if_neg hk,if_neg hk,List.nil_append]
   have:(if (gi h.al (t:Int)).aI.bh=1 then [(⟨(gi h.al (t:Int)).aI.aj,(gi h.al (t:Int)).aI.N,(t:Int),(fwd (gi h.al (t:Int)).aI.aj ((bl h).drop (t+1)) ((t:Int)+1)).1,(fwd (gi h.al (t:Int)).aI.aj ((bl h).drop (t+1)) ((t:Int)+1)).2⟩:ab)] else []).filter (fun o=>(gi h.al o.aE).ax == k)=[]:=by
    split
    ·rw [List.filter_cons,if_neg (by simpa using hk),List.filter_nil]
    ·rfl
   rw [this,List.nil_append]; rfl
theorem wW {h:ak} (k:Int):dm (bB h) (ofH h) k=(bB h).filter (fun o=>(gi h.al o.aE).ax == k):=by
 unfold dm bw
 have h1:=oI (fun o:ab=>(gi h.al o.aE).ax == k) (fun o=>o) (bB h)
 rw [List.map_id',List.map_id'] at h1
 rw [← h1]
 refine sj _ _ (fun j h0 h2=>?_)
 unfold dp ofH
 rw [kW (fun o:ab=>(gi h.al o.aE).ax) h0 (by omega)]
theorem Bw {h:ak} (hc:(aB h).2=0) (k:Int):dm (bB h) (ofH h) k=(opsOf (dt h.al k)).map (uZ h k):=by
 rw [wW]
 unfold bB
 rw [tx,tx]
 have:=Bx hc k h.al.length 0 (by omega)
 rw [List.drop_zero,List.drop_zero] at this
 exact this
end Go.Proofs.YteahldlmkheleaaGreat
