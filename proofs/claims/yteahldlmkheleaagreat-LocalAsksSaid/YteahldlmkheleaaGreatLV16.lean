/- Lemmas. -/
import Derived.Test.YteahldlmkheleaaGreatLV15
import Derived.Test.YteahldlmkheleaaGreatLV12
set_option linter.all false
namespace Go.Proofs.YteahldlmkheleaaGreat
open Go Go.Sv Go.Pu
theorem eJ {α:Type} [Inhabited α] {l:List α} {k:Nat} (h:k < l.length):l.take (k+1)=l.take k++[gi l (k:Int)]:=by
 have:=kE (l:=l) (i:=(k:Int)) (by omega) (by omega)
 rwa [show ((k:Int)+1).toNat=k+1 by omega,show ((k:Int)).toNat=k by omega] at this
theorem kW {α β:Type} [Inhabited α] [Inhabited β] (f:α→β) {l:List α} {i:Int} (h0:0≤i) (h1:i < l.length):gi (l.map f) i=f (gi l i):=by
 rw [jD h0 (by simpa using h1),jD h0 h1,List.getElem_map]
theorem v47 (h:ak) (hp:lh h):VC47 h (fun r=>r=bl h):=by
 unfold VC47 lh at *
 intro _ _
 refine ⟨fun out x=>∃ k:Nat,x=k∧k≤h.al.length∧out=(h.al.take k).map (·.aI),fun _ x=>(h.al.length - x).toNat,⟨0,rfl,by omega,rfl⟩,?_⟩
 rintro _ _ ⟨k,rfl,hk,rfl⟩
 refine ⟨fun hi=>?_,fun hi=>?_⟩
 ·rw [decide_eq_true_eq] at hi
  rw [wrp (n:=(k:Int)+1) (by omega) (by omega)]
  refine ⟨⟨by omega,hi⟩,by simp; omega,⟨k+1,by push_cast; rfl,by omega,?_⟩,by dsimp only; omega⟩
  rw [eJ (by omega),List.map_append]; rfl
 ·rw [decide_eq_false_iff_not] at hi
  unfold VC47_J1 bl
  rw [List.take_of_length_le (by omega)]
theorem v52 (o:ae) (hp:kx o):VC52 o (fun r=>r=cM o):=by
 intro _
 refine ⟨hp,?_⟩
 rintro _ rfl
 rfl
theorem v83_52 (l:List ae) (hp:lj l):VC83_52 l (fun r=>r=bb l):=by
 unfold VC83_52
 intro hs
 simp only [sm] at hs
 refine ⟨fun x=>∃ k:Nat,x=k∧k≤l.length∧∀ j:Nat,j < k→cM (gi l (j:Int))=false,fun x=>(l.length - x).toNat,⟨0,rfl,by omega,fun j hj=>by omega⟩,?_⟩
 rintro _ ⟨k,rfl,hk,hb⟩
 refine ⟨fun hi=>?_,fun hi=>?_⟩
 ·rw [decide_eq_true_eq] at hi
  rw [wrp (n:=(k:Int)+1) (by omega) (by omega)]
  refine ⟨⟨by omega,hi⟩,fun _=>?_⟩
  refine ⟨hp _ (e7 (by omega) hi),?_⟩
  rintro _ rfl
  refine ⟨fun hc=>?_,fun hc=>⟨⟨k+1,by push_cast; rfl,by omega,fun j hj=>?_⟩,by dsimp only; omega⟩⟩
  ·unfold bb
   rw [pU (l:=l) (f:=cM) (i:=(k:Int)) (by omega) (by omega) hc (fun j h0 h1=>by obtain ⟨n,rfl⟩:=Int.eq_ofNat_of_zero_le h0; exact hb n (by omega))]
   simp
  ·by_cases e:j=k
   ·subst e; exact hc
   ·exact hb j (by omega)
 ·rw [decide_eq_false_iff_not] at hi
  unfold VC83_52_J1 bb
  rw [pT (l:=l) (f:=cM) (fun j h0 h1=>by obtain ⟨n,rfl⟩:=Int.eq_ofNat_of_zero_le h0; exact hb n (by omega))]
theorem v54_52 (l:List ae) (hp:lj l):VC54_52 l (fun r=>r=a8 l):=by
 unfold VC54_52
 intro _
 refine ⟨hp,?_⟩
 rintro _ rfl
 unfold bb a8
 cases e:l.findIdx? cM with
 | none =>
  rw [List.findIdx?_eq_none_iff] at e
  have:l.any cM=false:=List.any_eq_false.2 (fun x hx=>by rw [e x hx]; decide)
  rw [this]; rfl
 | some i =>
  obtain ⟨h1,h2,_⟩:=List.findIdx?_eq_some_iff_getElem.1 e
  have:l.any cM=true:=List.any_eq_true.2 ⟨l[i],List.getElem_mem _,h2⟩
  rw [this]
  exact decide_eq_true (show (0:Int)≤(i:Int) by omega)
theorem qS {os:List ae} {l:List aR} {k:Nat} {b:List (Int × Int)} (hk:k < l.length):hGo os (l.drop k) k b=if iI os b (gi l (k:Int))≠0 then ((k:Int),iI os b (gi l (k:Int))) else hGo os (l.drop (k+1)) ((k:Int)+1) (dk b (gi l (k:Int)).aI.aj (gi l (k:Int)).ax):=by
 rw [fT hk,hGo]
theorem v23 (h:ak) (hp:gg h):VC23 h (fun r=>r=aB h):=by
 obtain ⟨oD,mq,yG⟩:=hp
 have j1b:pA h.ah→VC23_J1 h (fun r=>r=aB h) true:=fun hb=>by
  unfold VC23_J1 aB
  exact ⟨fun _=>by rw [if_pos hb],fun h0=>by cases h0⟩
 have Pl:¬ pA h.ah→VC23_J1 h (fun r=>r=aB h) false:=fun hb=>by
  unfold VC23_J1
  refine ⟨fun h0=>(by cases h0),fun _=>⟨mq,?_⟩⟩
  rintro _ rfl _ _ rfl
  have hE:(⟨h.ah,h.al⟩:ak)=h:=rfl
  rw [hE]
  unfold aB
  rw [if_neg hb]
  refine ⟨fun he=>by rw [if_pos (by simpa using he)],fun he=>?_⟩
  rw [if_neg (by simpa using he)]
  refine ⟨fun b x=>∃ k:Nat,x=k∧k≤h.al.length∧hGo h.ah (h.al.drop k) k b=hGo h.ah h.al 0 [],fun _ x=>(h.al.length - x).toNat,⟨0,rfl,by omega,rfl⟩,?_⟩
  rintro b _ ⟨k,rfl,hk,hg⟩
  refine ⟨fun hi=>?_,fun hi=>?_⟩
  ·rw [decide_eq_true_eq] at hi
   rw [qS (by omega)] at hg
   have hw:=wrp (n:=(k:Int)+1) (by omega) (by omega)
   refine ⟨⟨by omega,hi⟩,fun h1=>?_,fun h1=>?_⟩
   ·have e:iI h.ah b (gi h.al (k:Int))=2:=by unfold iI; rw [if_pos (by simpa using h1)]
    rw [e,if_pos (by decide)] at hg; exact hg
   ·have h1:¬ ((gi h.al (k:Int)).ax < 0∨(gi h.al (k:Int)).ax≥h.ah.length):=by simpa using h1
    have j4:∀ z,(z=true→iI h.ah b (gi h.al (k:Int))=31)→(z=false→iI h.ah b (gi h.al (k:Int))=0)→VC23_J4 h (fun r=>r=hGo h.ah h.al 0 []) (fun b x=>∃ k:Nat,x=k∧k≤h.al.length∧hGo h.ah (h.al.drop k) k b=hGo h.ah h.al 0 []) (fun _ x=>(h.al.length - x).toNat) b (k:Int) z:=fun z Eg uk=>by
     unfold VC23_J4
     refine ⟨fun hz=>?_,fun hz=>?_⟩
     ·rw [Eg hz,if_pos (by decide)] at hg; exact hg
     ·rw [uk hz,if_neg (by decide)] at hg
      rw [hw]
      exact ⟨⟨k+1,by push_cast; rfl,by omega,by push_cast; exact hg⟩,by dsimp only; omega⟩
    have j3:∀ z,(z=true→iI h.ah b (gi h.al (k:Int))=32)→(z=false→iI h.ah b (gi h.al (k:Int))=if (gi h.al (k:Int)).aI.bh=1∧(gi h.al (k:Int)).aI.N≥(gi h.ah (gi h.al (k:Int)).ax).aw then 31 else 0)→VC23_J3 h (fun r=>r=hGo h.ah h.al 0 []) (fun b x=>∃ k:Nat,x=k∧k≤h.al.length∧hGo h.ah (h.al.drop k) k b=hGo h.ah h.al 0 []) (fun _ x=>(h.al.length - x).toNat) b (k:Int) z:=fun z Eg uk=>by
     unfold VC23_J3
     refine ⟨fun hz=>?_,fun hz=>⟨fun hW=>⟨by omega,j4 _ (fun hN=>?_) (fun hN=>?_)⟩,fun hW=>j4 _ (fun hN=>by cases hN) (fun _=>?_)⟩⟩
     ·rw [Eg hz,if_pos (by decide)] at hg; exact hg
     ·rw [uk hz,if_pos ⟨by simpa using hW,by simpa using hN⟩]
     ·rw [uk hz,if_neg (fun hh=>by have:=hh.2; simp at hN; omega)]
     ·rw [uk hz,if_neg (fun hh=>by have:=hh.1; simp at hW; omega)]
    refine ⟨fun hW=>j3 _ (fun hM=>?_) (fun hM=>?_),fun hW=>j3 _ (fun hM=>by cases hM) (fun _=>?_)⟩
    ·unfold iI; rw [if_neg h1,if_pos ⟨by simpa using hW,by simpa using hM⟩]
    ·unfold iI; rw [if_neg h1,if_neg (fun hh=>by have:=hh.2; simp at hM; omega)]
    ·unfold iI; rw [if_neg h1,if_neg (fun hh=>by have:=hh.1; simp at hW; omega)]
  ·rw [decide_eq_false_iff_not] at hi
   have:k=h.al.length:=by omega
   subst this
   unfold VC23_J2
   rw [List.drop_length,hGo] at hg
   exact hg
 unfold VC23
 intro _ _
 refine ⟨fun h1=>j1b ?_,fun h1=>⟨oD,?_⟩⟩
 ·unfold pA; simp at h1; omega
 ·rintro _ rfl
  have h1:¬ h.ah.length < 1∧¬ h.ah.length > 8:=by simp at h1; omega
  cases e:a8 h.ah with
  | true=>exact j1b (.inr (.inr e))
  | false =>
   refine Pl ?_
   rintro (hh | hh | hh)
   ·exact h1.1 hh
   ·exact h1.2 hh
   ·unfold a8 at e; rw [e] at hh; cases hh
def jt (l:List aR):List (Int × Int):=l.foldl (fun b x=>dk b x.aI.aj x.ax) []
theorem lB (l:List aR) (x:aR):jt (l++[x])=dk (jt l) x.aI.aj x.ax:=by unfold jt; rw [List.foldl_append]; rfl
theorem sO (p:Int) (l:List aR):eA (l.map (·.aI)) p=1→(aF (jt l) p).isSome=true:=by
 refine uy (P:=fun l=>eA (l.map (·.aI)) p=1→(aF (jt l) p).isSome=true) (fun h=>by simp [eA] at h) (fun l x ih h=>?_) l
 rw [List.map_append,List.map_cons,List.map_nil,e8] at h
 rw [lB,eX]
 by_cases e:p=x.aI.aj
 ·rw [if_pos e]; rfl
 ·rw [if_neg e]; rw [if_neg (fun hh=>e hh.symm)] at h; exact ih h
theorem wx {l:List az} {k:Nat} (hk:k < l.length):gi (l.map toL) (k:Int)=toL (gi l (k:Int)):=kW toL (by omega) (by omega)
theorem sM {l:List az} (p:Int):∀ k:Nat,k≤l.length→mz l p k=(aF (jt ((l.map toL).take k)) p).getD (-1)
 | 0,_=>rfl
 | k+1,hk=>by
  rw [mz,eJ (by rw [List.length_map]; omega),lB,eX,wx (by omega),sM p k (by omega)]
  by_cases e:(gi l (k:Int)).aI.aj=p
  ·rw [if_pos e,if_pos (by rw [← e]; rfl)]; rfl
  ·rw [if_neg e,if_neg (fun hh=>e (by rw [hh]; rfl))]
theorem oH (os:List ae) (l:List az):bl ⟨os,l.map toL⟩=bQ l:=by
 unfold bl bQ; rw [List.map_map]; rfl
theorem v45 (l:List az) (hp:rY l):VC45 l (fun r=>r=bQ l):=by
 unfold VC45 rY at *
 intro _
 refine ⟨fun out x=>∃ k:Nat,x=k∧k≤l.length∧out=(l.take k).map (·.aI),fun _ x=>(l.length - x).toNat,⟨0,rfl,by omega,rfl⟩,?_⟩
 rintro _ _ ⟨k,rfl,hk,rfl⟩
 refine ⟨fun hi=>?_,fun hi=>?_⟩
 ·rw [decide_eq_true_eq] at hi
  rw [wrp (n:=(k:Int)+1) (by omega) (by omega)]
  refine ⟨⟨by omega,hi⟩,by simp; omega,⟨k+1,by push_cast; rfl,by omega,?_⟩,by dsimp only; omega⟩
  rw [eJ (by omega),List.map_append]; rfl
 ·rw [decide_eq_false_iff_not] at hi
  unfold VC45_J1 bQ
  rw [List.take_of_length_le (by omega)]
theorem v59 (l:List az) (a:Int) (hp:tr l a):VC59 l a (fun r=>r=fC l a):=by
 unfold VC59
 intro hs
 simp only [sm] at hs
 obtain ⟨h0,h1⟩:=hp
 obtain ⟨n,rfl⟩:=Int.eq_ofNat_of_zero_le h0
 have hn:((n:Nat):Int).toNat=n:=by omega
 refine ⟨fun x=>∃ k:Nat,x=(k:Int) - 1∧k≤n∧mz l (gi l (n:Int)).aI.aj k=fC l (n:Int),fun x=>(x+1).toNat,⟨n,by rw [wrp (by omega) (by omega)],by omega,by unfold fC; rw [hn]⟩,?_⟩
 rintro _ ⟨k,rfl,hk,hg⟩
 refine ⟨fun hi=>?_,fun hi=>?_⟩
 ·rw [decide_eq_true_eq] at hi
  obtain ⟨m,rfl⟩:∃ m,k=m+1:=⟨k - 1,by omega⟩
  have em:(((m+1:Nat):Int) - 1)=(m:Int):=by omega
  rw [em,wrp (n:=(m:Int) - 1) (by omega) (by omega)]
  rw [mz] at hg
  refine ⟨by omega,by omega,fun he=>⟨by omega,?_⟩,fun he=>⟨⟨m,rfl,by omega,?_⟩,by dsimp only; omega⟩⟩
  ·rw [if_pos (by simpa using he)] at hg; exact hg
  ·rw [if_neg (by simpa using he)] at hg; exact hg
 ·rw [decide_eq_false_iff_not] at hi
  have:k=0:=by omega
  subst this
  unfold VC59_J1
  exact hg
theorem yX {h:ak} (hb:pA h.ah):aB h=(-1,2):=by unfold aB; rw [if_pos hb]
theorem v28 (os:List ae) (l:List az) (hp:jl os l):VC28 os l (fun r=>r=cc os l):=by
 obtain ⟨oD,mq⟩:=hp
 unfold VC28
 intro xp Fe
 simp only [sm] at xp Fe
 refine ⟨fun h1=>?_,fun h1=>?_⟩
 ·exact (yX (h:=⟨os,l.map toL⟩) (by
   unfold pA
   dsimp only
   simp at h1
   rcases h1 with h1 | h1
   ·exact .inl (by omega)
   ·exact .inr (.inl (by omega)))).symm
 have h1:¬ os.length < 1∧¬ os.length > 8:=by simp at h1; omega
 refine ⟨fun x=>∃ k:Nat,x=k∧k≤os.length∧∀ j:Nat,j < k→cM (gi os (j:Int))=false,fun x=>(os.length - x).toNat,⟨0,rfl,by omega,fun j hj=>by omega⟩,?_⟩
 rintro _ ⟨k,rfl,hk,hb⟩
 refine ⟨fun hi=>?_,fun hi=>?_⟩
 ·rw [decide_eq_true_eq] at hi
  rw [wrp (n:=(k:Int)+1) (by omega) (by omega)]
  refine ⟨⟨by omega,hi⟩,fun _=>?_⟩
  rintro _ rfl
  refine ⟨fun hc=>?_,fun hc=>⟨⟨k+1,by push_cast; rfl,by omega,fun j hj=>?_⟩,by dsimp only; omega⟩⟩
  ·exact (yX (h:=⟨os,l.map toL⟩) (.inr (.inr (List.any_eq_true.2 ⟨_,e7 (by omega) hi,hc⟩)))).symm
  ·by_cases e:j=k
   ·subst e; exact hc
   ·exact hb j (by omega)
 ·rw [decide_eq_false_iff_not] at hi
  have MD:¬ pA os:=by
   rintro (hh | hh | hh)
   ·exact h1.1 hh
   ·exact h1.2 hh
   ·obtain ⟨o,ho,hc⟩:=List.any_eq_true.1 hh
    obtain ⟨i,Em,rfl⟩:=List.getElem_of_mem ho
    have:=hb i (by omega)
    rw [cN _ _ Em] at this
    rw [this] at hc; cases hc
  unfold VC28_J1
  refine ⟨mq,?_⟩
  rintro _ rfl _ _ rfl
  unfold cc aB
  rw [if_neg MD,oH]
  have PH:eR (bQ l)=bA (bQ l):=rfl
  rw [PH]
  refine ⟨fun he=>by rw [if_pos (by simpa using he)],fun he=>?_⟩
  have he:(bA (bQ l)).2=0:=by simpa using he
  rw [if_neg (by rw [he]; decide)]
  dsimp only
  generalize hL:l.map toL=L
  have Oh:L.length=l.length:=by rw [← hL,List.length_map]
  refine ⟨fun x=>∃ k:Nat,x=k∧k≤l.length∧hGo os (L.drop k) k (jt (L.take k))=hGo os L 0 [],fun x=>(l.length - x).toNat,⟨0,rfl,by omega,rfl⟩,?_⟩
  rintro _ ⟨k,rfl,hk,hg⟩
  refine ⟨fun hi=>?_,fun hi=>?_⟩
  ·rw [decide_eq_true_eq] at hi
   have Oc:gi L (k:Int)=toL (gi l (k:Int)):=by rw [← hL]; exact wx (by omega)
   rw [qS (by omega),Oc,show dk (jt (L.take k)) (toL (gi l (k:Int))).aI.aj (toL (gi l (k:Int))).ax=jt (L.take (k+1)) by rw [eJ (by omega),lB,Oc]] at hg
   have hw:=wrp (n:=(k:Int)+1) (by omega) (by omega)
   refine ⟨⟨by omega,hi⟩,fun h1=>?_,fun h1=>?_⟩
   ·have e:iI os (jt (L.take k)) (toL (gi l (k:Int)))=2:=by unfold iI; rw [if_pos (by simpa [toL] using h1)]
    rw [e,if_pos (by decide)] at hg; exact hg
   ·have h1:¬ ((toL (gi l (k:Int))).ax < 0∨(toL (gi l (k:Int))).ax≥os.length):=by simpa [toL] using h1
    have j4:∀ z,(z=true→iI os (jt (L.take k)) (toL (gi l (k:Int)))=31)→(z=false→iI os (jt (L.take k)) (toL (gi l (k:Int)))=0)→VC28_J4 (fun r=>r=hGo os L 0 []) (fun x=>∃ k:Nat,x=k∧k≤l.length∧hGo os (L.drop k) k (jt (L.take k))=hGo os L 0 []) (fun x=>(l.length - x).toNat) (k:Int) z:=fun z Eg uk=>by
     unfold VC28_J4
     refine ⟨fun hz=>?_,fun hz=>?_⟩
     ·rw [Eg hz,if_pos (by decide)] at hg; exact hg
     ·rw [uk hz,if_neg (by decide)] at hg
      rw [hw]
      exact ⟨⟨k+1,by push_cast; rfl,by omega,by push_cast; exact hg⟩,by dsimp only; omega⟩
    have j3:∀ z,(z=true→iI os (jt (L.take k)) (toL (gi l (k:Int)))=32)→(z=false→iI os (jt (L.take k)) (toL (gi l (k:Int)))=if (gi l (k:Int)).aI.bh=1∧(gi l (k:Int)).aI.N≥(gi os (gi l (k:Int)).ax).aw then 31 else 0)→VC28_J3 os l (fun r=>r=hGo os L 0 []) (fun x=>∃ k:Nat,x=k∧k≤l.length∧hGo os (L.drop k) k (jt (L.take k))=hGo os L 0 []) (fun x=>(l.length - x).toNat) (k:Int) z:=fun z Eg uk=>by
     unfold VC28_J3
     refine ⟨fun hz=>?_,fun hz=>⟨fun hW=>⟨by dsimp only [toL] at h1; omega,j4 _ (fun hN=>?_) (fun hN=>?_)⟩,fun hW=>j4 _ (fun hN=>by cases hN) (fun _=>?_)⟩⟩
     ·rw [Eg hz,if_pos (by decide)] at hg; exact hg
     ·rw [uk hz,if_pos ⟨by simpa using hW,by simpa using hN⟩]
     ·rw [uk hz,if_neg (fun hh=>by have:=hh.2; simp at hN; omega)]
     ·rw [uk hz,if_neg (fun hh=>by have:=hh.1; simp at hW; omega)]
    refine ⟨fun hW=>⟨⟨by omega,hi⟩,?_⟩,fun hW=>j3 _ (fun hM=>by cases hM) (fun _=>?_)⟩
    ·rintro _ rfl
     have hW:(gi l (k:Int)).aI.bh=2:=by simpa using hW
     have Sp:(bQ l).length=l.length:=by unfold bQ; rw [List.length_map]
     have hx:=pV he (k:=k) (by omega)
     have Qc:gi (bQ l) (k:Int)=(gi l (k:Int)).aI:=kW (fun x:az=>x.aI) (l:=l) (i:=(k:Int)) (by omega) hi
     have PX:eA ((bQ l).take k) (gi l (k:Int)).aI.aj=1:=by
      rw [Qc] at hx
      rcases jY hx with ⟨w,_⟩ | ⟨_,w⟩
      ·omega
      ·exact w
     have hT:(L.take k).map (·.aI)=(bQ l).take k:=by
      rw [← hL,List.map_take,List.map_map]; rfl
     have Aa:=sO _ (L.take k) (by rw [hT]; exact PX)
     have Qt:fC l (k:Int)=(aF (jt (L.take k)) (gi l (k:Int)).aI.aj).getD 0:=by
      unfold fC
      rw [show ((k:Int)).toNat=k by omega,sM _ k (by omega),hL]
      obtain ⟨v,hv⟩:=Option.isSome_iff_exists.1 Aa
      rw [hv]; rfl
     rw [Qt]
     refine j3 _ (fun hM=>?_) (fun hM=>?_)
     ·unfold iI; rw [if_neg h1,if_pos ⟨hW,by simpa [toL] using hM⟩]
     ·unfold iI; rw [if_neg h1,if_neg (fun hh=>by have:=hh.2; simp at hM; exact this hM)]; rfl
    ·unfold iI; rw [if_neg h1,if_neg (fun hh=>by have:=hh.1; simp at hW; dsimp only [toL] at this; omega)]; rfl
  ·rw [decide_eq_false_iff_not] at hi
   have:k=L.length:=by omega
   subst this
   unfold VC28_J2
   rw [List.drop_length,hGo,Oh] at hg
   exact hg
end Go.Proofs.YteahldlmkheleaaGreat
