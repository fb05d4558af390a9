/- zN parts of a Df,as the code xX them. -/
import Derived.Test.YteahldlmkheleaaGreatLV15
import Derived.Test.YteahldlmkheleaaGreatLV12
set_option linter.all false
namespace Go.Proofs.YteahldlmkheleaaGreat
open Go Go.Sv Go.Pu
theorem e9 {α:Type} [Inhabited α] {l:List α} {k:Nat} (h:k < l.length):l.take (k+1)=l.take k++[gi l (k:Int)]:=by
 have:=kS (l:=l) (i:=(k:Int)) (by omega) (by omega)
 rwa [show ((k:Int)+1).toNat=k+1 by omega,show ((k:Int)).toNat=k by omega] at this
theorem kp {α β:Type} [Inhabited α] [Inhabited β] (f:α→β) {l:List α} {i:Int} (h0:0≤i) (h1:i < l.length):gi (l.map f) i=f (gi l i):=by
 rw [jo h0 (by simpa using h1),jo h0 h1,List.getElem_map]
theorem v47 (h:ak) (hp:lq h):VC47 h (fun r=>r=bN h):=by
 unfold VC47 lq at *
 intro _ _
 refine ⟨fun out x=>∃ k:Nat,x=k∧k≤h.ao.length∧out=(h.ao.take k).map (·.aS),fun _ x=>(h.ao.length - x).toNat,⟨0,rfl,by omega,rfl⟩,?_⟩
 rintro _ _ ⟨k,rfl,hk,rfl⟩
 refine ⟨fun hi=>?_,fun hi=>?_⟩
 ·rw [decide_eq_true_eq] at hi
  rw [wrp (n:=(k:Int)+1) (by omega) (by omega)]
  refine ⟨⟨by omega,hi⟩,by simp; omega,⟨k+1,by push_cast; rfl,by omega,?_⟩,by dsimp only; omega⟩
  rw [e9 (by omega),List.map_append]; rfl
 ·rw [decide_eq_false_iff_not] at hi
  unfold VC47_J1 bN
  rw [List.take_of_length_le (by omega)]
theorem v52 (o:ah) (hp:jW o):VC52 o (fun r=>r=cM o):=by
 intro _
 refine ⟨hp,?_⟩
 rintro _ rfl
 rfl
theorem v83_52 (l:List ah) (hp:lr l):VC83_52 l (fun r=>r=a9 l):=by
 unfold VC83_52
 intro hs
 simp only [sm] at hs
 refine ⟨fun x=>∃ k:Nat,x=k∧k≤l.length∧∀ j:Nat,j < k→cM (gi l (j:Int))=false,fun x=>(l.length - x).toNat,⟨0,rfl,by omega,fun j hj=>by omega⟩,?_⟩
 rintro _ ⟨k,rfl,hk,hb⟩
 refine ⟨fun hi=>?_,fun hi=>?_⟩
 ·rw [decide_eq_true_eq] at hi
  rw [wrp (n:=(k:Int)+1) (by omega) (by omega)]
  refine ⟨⟨by omega,hi⟩,fun _=>?_⟩
  refine ⟨hp _ (dq (by omega) hi),?_⟩
  rintro _ rfl
  refine ⟨fun hc=>?_,fun hc=>⟨⟨k+1,by push_cast; rfl,by omega,fun j hj=>?_⟩,by dsimp only; omega⟩⟩
  ·unfold a9
   rw [pt (l:=l) (f:=cM) (i:=(k:Int)) (by omega) (by omega) hc (fun j h0 h1=>by obtain ⟨n,rfl⟩:=Int.eq_ofNat_of_zero_le h0; exact hb n (by omega))]
   simp
  ·by_cases e:j=k
   ·subst e; exact hc
   ·exact hb j (by omega)
 ·rw [decide_eq_false_iff_not] at hi
  unfold VC83_52_J1 a9
  rw [pq (l:=l) (f:=cM) (fun j h0 h1=>by obtain ⟨n,rfl⟩:=Int.eq_ofNat_of_zero_le h0; exact hb n (by omega))]
theorem v54_52 (l:List ah) (hp:lr l):VC54_52 l (fun r=>r=aW l):=by
 unfold VC54_52
 intro _
 refine ⟨hp,?_⟩
 rintro _ rfl
 unfold a9 aW
 cases e:l.findIdx? cM with
 | none =>
  rw [List.findIdx?_eq_none_iff] at e
  have:l.any cM=false:=List.any_eq_false.2 (fun x hx=>by rw [e x hx]; decide)
  rw [this]; rfl
 | some i =>
  obtain ⟨h1,h2,_⟩:=List.findIdx?_eq_some_iff_getElem.1 e
  have:l.any cM=true:=List.any_eq_true.2 ⟨l[i],List.getElem_mem _,h2⟩
  rw [this]
  exact decide_eq_true (show (0:Int)≤(i:Int) by omega)
theorem uz {os:List ah} {l:List ba} {k:Nat} {b:List (Int × Int)} (hk:k < l.length):hGo os (l.drop k) k b=if iT os b (gi l (k:Int))≠0 then ((k:Int),iT os b (gi l (k:Int))) else hGo os (l.drop (k+1)) ((k:Int)+1) (dj b (gi l (k:Int)).aS.aj (gi l (k:Int)).ax):=by
 rw [gJ hk,hGo]
theorem v23 (h:ak) (hp:fQ h):VC23 h (fun r=>r=aB h):=by
 obtain ⟨o4,mt,xI⟩:=hp
 have j1b:o5 h.ae→VC23_J1 h (fun r=>r=aB h) true:=fun hb=>by
  unfold VC23_J1 aB
  exact ⟨fun _=>by rw [if_pos hb],fun h0=>by cases h0⟩
 have Oi:¬ o5 h.ae→VC23_J1 h (fun r=>r=aB h) false:=fun hb=>by
  unfold VC23_J1
  refine ⟨fun h0=>(by cases h0),fun _=>⟨mt,?_⟩⟩
  rintro _ rfl _ _ rfl
  have hE:(⟨h.ae,h.ao⟩:ak)=h:=rfl
  rw [hE]
  unfold aB
  rw [if_neg hb]
  refine ⟨fun he=>by rw [if_pos (by simpa using he)],fun he=>?_⟩
  rw [if_neg (by simpa using he)]
  refine ⟨fun b x=>∃ k:Nat,x=k∧k≤h.ao.length∧hGo h.ae (h.ao.drop k) k b=hGo h.ae h.ao 0 [],fun _ x=>(h.ao.length - x).toNat,⟨0,rfl,by omega,rfl⟩,?_⟩
  rintro b _ ⟨k,rfl,hk,hg⟩
  refine ⟨fun hi=>?_,fun hi=>?_⟩
  ·rw [decide_eq_true_eq] at hi
   rw [uz (by omega)] at hg
   have hw:=wrp (n:=(k:Int)+1) (by omega) (by omega)
   refine ⟨⟨by omega,hi⟩,fun h1=>?_,fun h1=>?_⟩
   ·have e:iT h.ae b (gi h.ao (k:Int))=2:=by unfold iT; rw [if_pos (by simpa using h1)]
    rw [e,if_pos (by decide)] at hg; exact hg
   ·have h1:¬ ((gi h.ao (k:Int)).ax < 0∨(gi h.ao (k:Int)).ax≥h.ae.length):=by simpa using h1
    have j4:∀ z,(z=true→iT h.ae b (gi h.ao (k:Int))=31)→(z=false→iT h.ae b (gi h.ao (k:Int))=0)→VC23_J4 h (fun r=>r=hGo h.ae h.ao 0 []) (fun b x=>∃ k:Nat,x=k∧k≤h.ao.length∧hGo h.ae (h.ao.drop k) k b=hGo h.ae h.ao 0 []) (fun _ x=>(h.ao.length - x).toNat) b (k:Int) z:=fun z FO vm=>by
     unfold VC23_J4
     refine ⟨fun hz=>?_,fun hz=>?_⟩
     ·rw [FO hz,if_pos (by decide)] at hg; exact hg
     ·rw [vm hz,if_neg (by decide)] at hg
      rw [hw]
      exact ⟨⟨k+1,by push_cast; rfl,by omega,by push_cast; exact hg⟩,by dsimp only; omega⟩
    have j3:∀ z,(z=true→iT h.ae b (gi h.ao (k:Int))=32)→(z=false→iT h.ae b (gi h.ao (k:Int))=if (gi h.ao (k:Int)).aS.bk=1∧(gi h.ao (k:Int)).aS.N≥(gi h.ae (gi h.ao (k:Int)).ax).aw then 31 else 0)→VC23_J3 h (fun r=>r=hGo h.ae h.ao 0 []) (fun b x=>∃ k:Nat,x=k∧k≤h.ao.length∧hGo h.ae (h.ao.drop k) k b=hGo h.ae h.ao 0 []) (fun _ x=>(h.ao.length - x).toNat) b (k:Int) z:=fun z FO vm=>by
     unfold VC23_J3
     refine ⟨fun hz=>?_,fun hz=>⟨fun hW=>⟨by omega,j4 _ (fun hN=>?_) (fun hN=>?_)⟩,fun hW=>j4 _ (fun hN=>by cases hN) (fun _=>?_)⟩⟩
     ·rw [FO hz,if_pos (by decide)] at hg; exact hg
     ·rw [vm hz,if_pos ⟨by simpa using hW,by simpa using hN⟩]
     ·rw [vm hz,if_neg (fun hh=>by have:=hh.2; simp at hN; omega)]
     ·rw [vm hz,if_neg (fun hh=>by have:=hh.1; simp at hW; omega)]
    refine ⟨fun hW=>j3 _ (fun hM=>?_) (fun hM=>?_),fun hW=>j3 _ (fun hM=>by cases hM) (fun _=>?_)⟩
    ·unfold iT; rw [if_neg h1,if_pos ⟨by simpa using hW,by simpa using hM⟩]
    ·unfold iT; rw [if_neg h1,if_neg (fun hh=>by have:=hh.2; simp at hM; omega)]
    ·unfold iT; rw [if_neg h1,if_neg (fun hh=>by have:=hh.1; simp at hW; omega)]
  ·rw [decide_eq_false_iff_not] at hi
   have:k=h.ao.length:=by omega
   subst this
   unfold VC23_J2
   rw [List.drop_length,hGo] at hg
   exact hg
 unfold VC23
 intro _ _
 refine ⟨fun h1=>j1b ?_,fun h1=>⟨o4,?_⟩⟩
 ·unfold o5; simp at h1; omega
 ·rintro _ rfl
  have h1:¬ h.ae.length < 1∧¬ h.ae.length > 8:=by simp at h1; omega
  cases e:aW h.ae with
  | true=>exact j1b (.inr (.inr e))
  | false =>
   refine Oi ?_
   rintro (hh | hh | hh)
   ·exact h1.1 hh
   ·exact h1.2 hh
   ·unfold aW at e; rw [e] at hh; cases hh
def lS (l:List ba):List (Int × Int):=l.foldl (fun b x=>dj b x.aS.aj x.ax) []
theorem oq (l:List ba) (x:ba):lS (l++[x])=dj (lS l) x.aS.aj x.ax:=by unfold lS; rw [List.foldl_append]; rfl
theorem zx (p:Int) (l:List ba):fm (l.map (·.aS)) p=1→(aC (lS l) p).isSome=true:=by
 refine tM (P:=fun l=>fm (l.map (·.aS)) p=1→(aC (lS l) p).isSome=true) (fun h=>by simp [fm] at h) (fun l x ih h=>?_) l
 rw [List.map_append,List.map_cons,List.map_nil,ga] at h
 rw [oq,eV]
 by_cases e:p=x.aS.aj
 ·rw [if_pos e]; rfl
 ·rw [if_neg e]; rw [if_neg (fun hh=>e hh.symm)] at h; exact ih h
theorem Ak {l:List aD} {k:Nat} (hk:k < l.length):gi (l.map toL) (k:Int)=toL (gi l (k:Int)):=kp toL (by omega) (by omega)
theorem rU {l:List aD} (p:Int):∀ k:Nat,k≤l.length→l5 l p k=(aC (lS ((l.map toL).take k)) p).getD (-1)
 | 0,_=>rfl
 | k+1,hk=>by
  rw [l5,e9 (by rw [List.length_map]; omega),oq,eV,Ak (by omega),rU p k (by omega)]
  by_cases e:(gi l (k:Int)).aS.aj=p
  ·rw [if_pos e,if_pos (by rw [← e]; rfl)]; rfl
  ·rw [if_neg e,if_neg (fun hh=>e (by rw [hh]; rfl))]
theorem lY (os:List ah) (l:List aD):bN ⟨os,l.map toL⟩=cl l:=by
 unfold bN cl; rw [List.map_map]; rfl
theorem v45 (l:List aD) (hp:rn l):VC45 l (fun r=>r=cl l):=by
 unfold VC45 rn at *
 intro _
 refine ⟨fun out x=>∃ k:Nat,x=k∧k≤l.length∧out=(l.take k).map (·.aS),fun _ x=>(l.length - x).toNat,⟨0,rfl,by omega,rfl⟩,?_⟩
 rintro _ _ ⟨k,rfl,hk,rfl⟩
 refine ⟨fun hi=>?_,fun hi=>?_⟩
 ·rw [decide_eq_true_eq] at hi
  rw [wrp (n:=(k:Int)+1) (by omega) (by omega)]
  refine ⟨⟨by omega,hi⟩,by simp; omega,⟨k+1,by push_cast; rfl,by omega,?_⟩,by dsimp only; omega⟩
  rw [e9 (by omega),List.map_append]; rfl
 ·rw [decide_eq_false_iff_not] at hi
  unfold VC45_J1 cl
  rw [List.take_of_length_le (by omega)]
theorem v59 (l:List aD) (a:Int) (hp:sC l a):VC59 l a (fun r=>r=fh l a):=by
 unfold VC59
 intro hs
 simp only [sm] at hs
 obtain ⟨h0,h1⟩:=hp
 obtain ⟨n,rfl⟩:=Int.eq_ofNat_of_zero_le h0
 have hn:((n:Nat):Int).toNat=n:=by omega
 refine ⟨fun x=>∃ k:Nat,x=(k:Int) - 1∧k≤n∧l5 l (gi l (n:Int)).aS.aj k=fh l (n:Int),fun x=>(x+1).toNat,⟨n,by rw [wrp (by omega) (by omega)],by omega,by unfold fh; rw [hn]⟩,?_⟩
 rintro _ ⟨k,rfl,hk,hg⟩
 refine ⟨fun hi=>?_,fun hi=>?_⟩
 ·rw [decide_eq_true_eq] at hi
  obtain ⟨m,rfl⟩:∃ m,k=m+1:=⟨k - 1,by omega⟩
  have em:(((m+1:Nat):Int) - 1)=(m:Int):=by omega
  rw [em,wrp (n:=(m:Int) - 1) (by omega) (by omega)]
  rw [l5] at hg
  refine ⟨by omega,by omega,fun he=>⟨by omega,?_⟩,fun he=>⟨⟨m,rfl,by omega,?_⟩,by dsimp only; omega⟩⟩
  ·rw [if_pos (by simpa using he)] at hg; exact hg
  ·rw [if_neg (by simpa using he)] at hg; exact hg
 ·rw [decide_eq_false_iff_not] at hi
  have:k=0:=by omega
  subst this
  unfold VC59_J1
  exact hg
theorem x3 {h:ak} (hb:o5 h.ae):aB h=(-1,2):=by unfold aB; rw [if_pos hb]
theorem v28 (os:List ah) (l:List aD) (hp:km os l):VC28 os l (fun r=>r=dz os l):=by
 obtain ⟨o4,mt⟩:=hp
 unfold VC28
 intro xD Cj
 simp only [sm] at xD Cj
 refine ⟨fun h1=>?_,fun h1=>?_⟩
 ·exact (x3 (h:=⟨os,l.map toL⟩) (by
   unfold o5
   dsimp only
   simp at h1
   rcases h1 with h1 | h1
   ·exact .inl (by omega)
   ·exact .inr (.inl (by omega)))).symm
 have h1:¬ os.length < 1∧¬ os.length > 8:=by simp at h1; omega
 refine ⟨fun x=>∃ k:Nat,x=k∧k≤os.length∧∀ j:Nat,j < k→cM (gi os (j:Int))=false,fun x=>(os.length - x).toNat,⟨0,rfl,by omega,fun j hj=>by omega⟩,?_⟩
 rintro _ ⟨k,rfl,hk,hb⟩
 refine ⟨fun hi=>?_,fun hi=>?_⟩
 ·rw [decide_eq_true_eq] at hi
  rw [wrp (n:=(k:Int)+1) (by omega) (by omega)]
  refine ⟨⟨by omega,hi⟩,fun _=>?_⟩
  rintro _ rfl
  refine ⟨fun hc=>?_,fun hc=>⟨⟨k+1,by push_cast; rfl,by omega,fun j hj=>?_⟩,by dsimp only; omega⟩⟩
  ·exact (x3 (h:=⟨os,l.map toL⟩) (.inr (.inr (List.any_eq_true.2 ⟨_,dq (by omega) hi,hc⟩)))).symm
  ·by_cases e:j=k
   ·subst e; exact hc
   ·exact hb j (by omega)
 ·rw [decide_eq_false_iff_not] at hi
  have Lw:¬ o5 os:=by
   rintro (hh | hh | hh)
   ·exact h1.1 hh
   ·exact h1.2 hh
   ·obtain ⟨o,ho,hc⟩:=List.any_eq_true.1 hh
    obtain ⟨i,A8,rfl⟩:=List.getElem_of_mem ho
    have:=hb i (by omega)
    rw [bS _ _ A8] at this
    rw [this] at hc; cases hc
  unfold VC28_J1
  refine ⟨mt,?_⟩
  rintro _ rfl _ _ rfl
  unfold dz aB
  rw [if_neg Lw,lY]
  have OF:eJ (cl l)=bP (cl l):=rfl
  rw [OF]
  refine ⟨fun he=>by rw [if_pos (by simpa using he)],fun he=>?_⟩
  have he:(bP (cl l)).2=0:=by simpa using he
  rw [if_neg (by rw [he]; decide)]
  dsimp only
  generalize hL:l.map toL=L
  have PI:L.length=l.length:=by rw [← hL,List.length_map]
  refine ⟨fun x=>∃ k:Nat,x=k∧k≤l.length∧hGo os (L.drop k) k (lS (L.take k))=hGo os L 0 [],fun x=>(l.length - x).toNat,⟨0,rfl,by omega,rfl⟩,?_⟩
  rintro _ ⟨k,rfl,hk,hg⟩
  refine ⟨fun hi=>?_,fun hi=>?_⟩
  ·rw [decide_eq_true_eq] at hi
   have Ne:gi L (k:Int)=toL (gi l (k:Int)):=by rw [← hL]; exact Ak (by omega)
   rw [uz (by omega),Ne,show dj (lS (L.take k)) (toL (gi l (k:Int))).aS.aj (toL (gi l (k:Int))).ax=lS (L.take (k+1)) by rw [e9 (by omega),oq,Ne]] at hg
   have hw:=wrp (n:=(k:Int)+1) (by omega) (by omega)
   refine ⟨⟨by omega,hi⟩,fun h1=>?_,fun h1=>?_⟩
   ·have e:iT os (lS (L.take k)) (toL (gi l (k:Int)))=2:=by unfold iT; rw [if_pos (by simpa [toL] using h1)]
    rw [e,if_pos (by decide)] at hg; exact hg
   ·have h1:¬ ((toL (gi l (k:Int))).ax < 0∨(toL (gi l (k:Int))).ax≥os.length):=by simpa [toL] using h1
    have j4:∀ z,(z=true→iT os (lS (L.take k)) (toL (gi l (k:Int)))=31)→(z=false→iT os (lS (L.take k)) (toL (gi l (k:Int)))=0)→VC28_J4 (fun r=>r=hGo os L 0 []) (fun x=>∃ k:Nat,x=k∧k≤l.length∧hGo os (L.drop k) k (lS (L.take k))=hGo os L 0 []) (fun x=>(l.length - x).toNat) (k:Int) z:=fun z FO vm=>by
     unfold VC28_J4
     refine ⟨fun hz=>?_,fun hz=>?_⟩
     ·rw [FO hz,if_pos (by decide)] at hg; exact hg
     ·rw [vm hz,if_neg (by decide)] at hg
      rw [hw]
      exact ⟨⟨k+1,by push_cast; rfl,by omega,by push_cast; exact hg⟩,by dsimp only; omega⟩
    have j3:∀ z,(z=true→iT os (lS (L.take k)) (toL (gi l (k:Int)))=32)→(z=false→iT os (lS (L.take k)) (toL (gi l (k:Int)))=if (gi l (k:Int)).aS.bk=1∧(gi l (k:Int)).aS.N≥(gi os (gi l (k:Int)).ax).aw then 31 else 0)→VC28_J3 os l (fun r=>r=hGo os L 0 []) (fun x=>∃ k:Nat,x=k∧k≤l.length∧hGo os (L.drop k) k (lS (L.take k))=hGo os L 0 []) (fun x=>(l.length - x).toNat) (k:Int) z:=fun z FO vm=>by
     unfold VC28_J3
     refine ⟨fun hz=>?_,fun hz=>⟨fun hW=>⟨by dsimp only [toL] at h1; omega,j4 _ (fun hN=>?_) (fun hN=>?_)⟩,fun hW=>j4 _ (fun hN=>by cases hN) (fun _=>?_)⟩⟩
     ·rw [FO hz,if_pos (by decide)] at hg; exact hg
     ·rw [vm hz,if_pos ⟨by simpa using hW,by simpa using hN⟩]
     ·rw [vm hz,if_neg (fun hh=>by have:=hh.2; simp at hN; omega)]
     ·rw [vm hz,if_neg (fun hh=>by have:=hh.1; simp at hW; omega)]
    refine ⟨fun hW=>⟨⟨by omega,hi⟩,?_⟩,fun hW=>j3 _ (fun hM=>by cases hM) (fun _=>?_)⟩
    ·rintro _ rfl
     have hW:(gi l (k:Int)).aS.bk=2:=by simpa using hW
     have Rw:(cl l).length=l.length:=by unfold cl; rw [List.length_map]
     have hx:=td he (k:=k) (by omega)
     have Ph:gi (cl l) (k:Int)=(gi l (k:Int)).aS:=kp (fun x:aD=>x.aS) (l:=l) (i:=(k:Int)) (by omega) hi
     have O2:fm ((cl l).take k) (gi l (k:Int)).aS.aj=1:=by
      rw [Ph] at hx
      rcases nr hx with ⟨w,_⟩ | ⟨_,w⟩
      ·omega
      ·exact w
     have hT:(L.take k).map (·.aS)=(cl l).take k:=by
      rw [← hL,List.map_take,List.map_map]; rfl
     have yX:=zx _ (L.take k) (by rw [hT]; exact O2)
     have PA:fh l (k:Int)=(aC (lS (L.take k)) (gi l (k:Int)).aS.aj).getD 0:=by
      unfold fh
      rw [show ((k:Int)).toNat=k by omega,rU _ k (by omega),hL]
      obtain ⟨v,hv⟩:=Option.isSome_iff_exists.1 yX
      rw [hv]; rfl
     rw [PA]
     refine j3 _ (fun hM=>?_) (fun hM=>?_)
     ·unfold iT; rw [if_neg h1,if_pos ⟨hW,by simpa [toL] using hM⟩]
     ·unfold iT; rw [if_neg h1,if_neg (fun hh=>by have:=hh.2; simp at hM; exact this hM)]; rfl
    ·unfold iT; rw [if_neg h1,if_neg (fun hh=>by have:=hh.1; simp at hW; dsimp only [toL] at this; omega)]; rfl
  ·rw [decide_eq_false_iff_not] at hi
   have:k=L.length:=by omega
   subst this
   unfold VC28_J2
   rw [List.drop_length,hGo,PI] at hg
   exact hg
end Go.Proofs.YteahldlmkheleaaGreat
