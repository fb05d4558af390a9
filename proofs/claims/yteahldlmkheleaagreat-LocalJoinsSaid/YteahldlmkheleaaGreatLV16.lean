/- z1 parts of a C2,as the code yg them. -/
import Derived.Test.YteahldlmkheleaaGreatLV15
import Derived.Test.YteahldlmkheleaaGreatLV12
set_option linter.all false
namespace Go.Proofs.YteahldlmkheleaaGreat
open Go Go.Sv Go.Pu
theorem eE {α:Type} [Inhabited α] {l:List α} {k:Nat} (h:k < l.length):l.take (k+1)=l.take k++[gi l (k:Int)]:=by
 have:=nq (l:=l) (i:=(k:Int)) (by omega) (by omega)
 rwa [show ((k:Int)+1).toNat=k+1 by omega,show ((k:Int)).toNat=k by omega] at this
theorem iZ {α β:Type} [Inhabited α] [Inhabited β] (f:α→β) {l:List α} {i:Int} (h0:0≤i) (h1:i < l.length):gi (l.map f) i=f (gi l i):=by
 rw [jk h0 (by simpa using h1),jk h0 h1,List.getElem_map]
theorem v47 (h:aj) (hp:kD h):VC47 h (fun r=>r=bk h):=by
 unfold VC47 kD at *
 intro _ _
 refine ⟨fun out x=>∃ k:Nat,x=k∧k≤h.ak.length∧out=(h.ak.take k).map (·.aK),fun _ x=>(h.ak.length - x).toNat,⟨0,rfl,by omega,rfl⟩,?_⟩
 rintro _ _ ⟨k,rfl,hk,rfl⟩
 refine ⟨fun hi=>?_,fun hi=>?_⟩
 ·rw [decide_eq_true_eq] at hi
  rw [wrp (n:=(k:Int)+1) (by omega) (by omega)]
  refine ⟨⟨by omega,hi⟩,by simp; omega,⟨k+1,by push_cast; rfl,by omega,?_⟩,by dsimp only; omega⟩
  rw [eE (by omega),List.map_append]; rfl
 ·rw [decide_eq_false_iff_not] at hi
  unfold VC47_J1 bk
  rw [List.take_of_length_le (by omega)]
theorem v52 (o:al) (hp:jV o):VC52 o (fun r=>r=cG o):=by
 intro _
 refine ⟨hp,?_⟩
 rintro _ rfl
 rfl
theorem v83_52 (l:List al) (hp:lK l):VC83_52 l (fun r=>r=ba l):=by
 unfold VC83_52
 intro hs
 simp only [sm] at hs
 refine ⟨fun x=>∃ k:Nat,x=k∧k≤l.length∧∀ j:Nat,j < k→cG (gi l (j:Int))=false,fun x=>(l.length - x).toNat,⟨0,rfl,by omega,fun j hj=>by omega⟩,?_⟩
 rintro _ ⟨k,rfl,hk,hb⟩
 refine ⟨fun hi=>?_,fun hi=>?_⟩
 ·rw [decide_eq_true_eq] at hi
  rw [wrp (n:=(k:Int)+1) (by omega) (by omega)]
  refine ⟨⟨by omega,hi⟩,fun _=>?_⟩
  refine ⟨hp _ (ep (by omega) hi),?_⟩
  rintro _ rfl
  refine ⟨fun hc=>?_,fun hc=>⟨⟨k+1,by push_cast; rfl,by omega,fun j hj=>?_⟩,by dsimp only; omega⟩⟩
  ·unfold ba
   rw [px (l:=l) (f:=cG) (i:=(k:Int)) (by omega) (by omega) hc (fun j h0 h1=>by obtain ⟨n,rfl⟩:=Int.eq_ofNat_of_zero_le h0; exact hb n (by omega))]
   simp
  ·by_cases e:j=k
   ·subst e; exact hc
   ·exact hb j (by omega)
 ·rw [decide_eq_false_iff_not] at hi
  unfold VC83_52_J1 ba
  rw [pw (l:=l) (f:=cG) (fun j h0 h1=>by obtain ⟨n,rfl⟩:=Int.eq_ofNat_of_zero_le h0; exact hb n (by omega))]
theorem v54_52 (l:List al) (hp:lK l):VC54_52 l (fun r=>r=aW l):=by
 unfold VC54_52
 intro _
 refine ⟨hp,?_⟩
 rintro _ rfl
 unfold ba aW
 cases e:l.findIdx? cG with
 | none =>
  rw [List.findIdx?_eq_none_iff] at e
  have:l.any cG=false:=List.any_eq_false.2 (fun x hx=>by rw [e x hx]; decide)
  rw [this]; rfl
 | some i =>
  obtain ⟨h1,h2,_⟩:=List.findIdx?_eq_some_iff_getElem.1 e
  have:l.any cG=true:=List.any_eq_true.2 ⟨l[i],List.getElem_mem _,h2⟩
  rw [this]
  exact decide_eq_true (show (0:Int)≤(i:Int) by omega)
theorem qt {os:List al} {l:List aR} {k:Nat} {b:List (Int × Int)} (hk:k < l.length):hGo os (l.drop k) k b=if hX os b (gi l (k:Int))≠0 then ((k:Int),hX os b (gi l (k:Int))) else hGo os (l.drop (k+1)) ((k:Int)+1) (de b (gi l (k:Int)).aK.ah (gi l (k:Int)).aw):=by
 rw [gx hk,hGo]
theorem v23 (h:aj) (hp:fV h):VC23 h (fun r=>r=aA h):=by
 obtain ⟨qV,nH,z5⟩:=hp
 have j1b:pb h.ae→VC23_J1 h (fun r=>r=aA h) true:=fun hb=>by
  unfold VC23_J1 aA
  exact ⟨fun _=>by rw [if_pos hb],fun h0=>by cases h0⟩
 have NR:¬ pb h.ae→VC23_J1 h (fun r=>r=aA h) false:=fun hb=>by
  unfold VC23_J1
  refine ⟨fun h0=>(by cases h0),fun _=>⟨nH,?_⟩⟩
  rintro _ rfl _ _ rfl
  have hE:(⟨h.ae,h.ak⟩:aj)=h:=rfl
  rw [hE]
  unfold aA
  rw [if_neg hb]
  refine ⟨fun he=>by rw [if_pos (by simpa using he)],fun he=>?_⟩
  rw [if_neg (by simpa using he)]
  refine ⟨fun b x=>∃ k:Nat,x=k∧k≤h.ak.length∧hGo h.ae (h.ak.drop k) k b=hGo h.ae h.ak 0 [],fun _ x=>(h.ak.length - x).toNat,⟨0,rfl,by omega,rfl⟩,?_⟩
  rintro b _ ⟨k,rfl,hk,hg⟩
  refine ⟨fun hi=>?_,fun hi=>?_⟩
  ·rw [decide_eq_true_eq] at hi
   rw [qt (by omega)] at hg
   have hw:=wrp (n:=(k:Int)+1) (by omega) (by omega)
   refine ⟨⟨by omega,hi⟩,fun h1=>?_,fun h1=>?_⟩
   ·have e:hX h.ae b (gi h.ak (k:Int))=2:=by unfold hX; rw [if_pos (by simpa using h1)]
    rw [e,if_pos (by decide)] at hg; exact hg
   ·have h1:¬ ((gi h.ak (k:Int)).aw < 0∨(gi h.ak (k:Int)).aw≥h.ae.length):=by simpa using h1
    have j4:∀ z,(z=true→hX h.ae b (gi h.ak (k:Int))=31)→(z=false→hX h.ae b (gi h.ak (k:Int))=0)→VC23_J4 h (fun r=>r=hGo h.ae h.ak 0 []) (fun b x=>∃ k:Nat,x=k∧k≤h.ak.length∧hGo h.ae (h.ak.drop k) k b=hGo h.ae h.ak 0 []) (fun _ x=>(h.ak.length - x).toNat) b (k:Int) z:=fun z Fv vE=>by
     unfold VC23_J4
     refine ⟨fun hz=>?_,fun hz=>?_⟩
     ·rw [Fv hz,if_pos (by decide)] at hg; exact hg
     ·rw [vE hz,if_neg (by decide)] at hg
      rw [hw]
      exact ⟨⟨k+1,by push_cast; rfl,by omega,by push_cast; exact hg⟩,by dsimp only; omega⟩
    have j3:∀ z,(z=true→hX h.ae b (gi h.ak (k:Int))=32)→(z=false→hX h.ae b (gi h.ak (k:Int))=if (gi h.ak (k:Int)).aK.bh=1∧(gi h.ak (k:Int)).aK.N≥(gi h.ae (gi h.ak (k:Int)).aw).ax then 31 else 0)→VC23_J3 h (fun r=>r=hGo h.ae h.ak 0 []) (fun b x=>∃ k:Nat,x=k∧k≤h.ak.length∧hGo h.ae (h.ak.drop k) k b=hGo h.ae h.ak 0 []) (fun _ x=>(h.ak.length - x).toNat) b (k:Int) z:=fun z Fv vE=>by
     unfold VC23_J3
     refine ⟨fun hz=>?_,fun hz=>⟨fun hW=>⟨by omega,j4 _ (fun hN=>?_) (fun hN=>?_)⟩,fun hW=>j4 _ (fun hN=>by cases hN) (fun _=>?_)⟩⟩
     ·rw [Fv hz,if_pos (by decide)] at hg; exact hg
     ·rw [vE hz,if_pos ⟨by simpa using hW,by simpa using hN⟩]
     ·rw [vE hz,if_neg (fun hh=>by have:=hh.2; simp at hN; omega)]
     ·rw [vE hz,if_neg (fun hh=>by have:=hh.1; simp at hW; omega)]
    refine ⟨fun hW=>j3 _ (fun hM=>?_) (fun hM=>?_),fun hW=>j3 _ (fun hM=>by cases hM) (fun _=>?_)⟩
    ·unfold hX; rw [if_neg h1,if_pos ⟨by simpa using hW,by simpa using hM⟩]
    ·unfold hX; rw [if_neg h1,if_neg (fun hh=>by have:=hh.2; simp at hM; omega)]
    ·unfold hX; rw [if_neg h1,if_neg (fun hh=>by have:=hh.1; simp at hW; omega)]
  ·rw [decide_eq_false_iff_not] at hi
   have:k=h.ak.length:=by omega
   subst this
   unfold VC23_J2
   rw [List.drop_length,hGo] at hg
   exact hg
 unfold VC23
 intro _ _
 refine ⟨fun h1=>j1b ?_,fun h1=>⟨qV,?_⟩⟩
 ·unfold pb; simp at h1; omega
 ·rintro _ rfl
  have h1:¬ h.ae.length < 1∧¬ h.ae.length > 8:=by simp at h1; omega
  cases e:aW h.ae with
  | true=>exact j1b (.inr (.inr e))
  | false =>
   refine NR ?_
   rintro (hh | hh | hh)
   ·exact h1.1 hh
   ·exact h1.2 hh
   ·unfold aW at e; rw [e] at hh; cases hh
def jc (l:List aR):List (Int × Int):=l.foldl (fun b x=>de b x.aK.ah x.aw) []
theorem kS (l:List aR) (x:aR):jc (l++[x])=de (jc l) x.aK.ah x.aw:=by unfold jc; rw [List.foldl_append]; rfl
theorem sb (p:Int) (l:List aR):dW (l.map (·.aK)) p=1→(aC (jc l) p).isSome=true:=by
 refine tY (P:=fun l=>dW (l.map (·.aK)) p=1→(aC (jc l) p).isSome=true) (fun h=>by simp [dW] at h) (fun l x ih h=>?_) l
 rw [List.map_append,List.map_cons,List.map_nil,eU] at h
 rw [kS,eO]
 by_cases e:p=x.aK.ah
 ·rw [if_pos e]; rfl
 ·rw [if_neg e]; rw [if_neg (fun hh=>e hh.symm)] at h; exact ih h
theorem Al {l:List aH} {k:Nat} (hk:k < l.length):gi (l.map toL) (k:Int)=toL (gi l (k:Int)):=iZ toL (by omega) (by omega)
theorem r8 {l:List aH} (p:Int):∀ k:Nat,k≤l.length→l9 l p k=(aC (jc ((l.map toL).take k)) p).getD (-1)
 | 0,_=>rfl
 | k+1,hk=>by
  rw [l9,eE (by rw [List.length_map]; omega),kS,eO,Al (by omega),r8 p k (by omega)]
  by_cases e:(gi l (k:Int)).aK.ah=p
  ·rw [if_pos e,if_pos (by rw [← e]; rfl)]; rfl
  ·rw [if_neg e,if_neg (fun hh=>e (by rw [hh]; rfl))]
theorem rE (os:List al) (l:List aH):bk ⟨os,l.map toL⟩=cC l:=by
 unfold bk cC; rw [List.map_map]; rfl
theorem v45 (l:List aH) (hp:ry l):VC45 l (fun r=>r=cC l):=by
 unfold VC45 ry at *
 intro _
 refine ⟨fun out x=>∃ k:Nat,x=k∧k≤l.length∧out=(l.take k).map (·.aK),fun _ x=>(l.length - x).toNat,⟨0,rfl,by omega,rfl⟩,?_⟩
 rintro _ _ ⟨k,rfl,hk,rfl⟩
 refine ⟨fun hi=>?_,fun hi=>?_⟩
 ·rw [decide_eq_true_eq] at hi
  rw [wrp (n:=(k:Int)+1) (by omega) (by omega)]
  refine ⟨⟨by omega,hi⟩,by simp; omega,⟨k+1,by push_cast; rfl,by omega,?_⟩,by dsimp only; omega⟩
  rw [eE (by omega),List.map_append]; rfl
 ·rw [decide_eq_false_iff_not] at hi
  unfold VC45_J1 cC
  rw [List.take_of_length_le (by omega)]
theorem v59 (l:List aH) (a:Int) (hp:sM l a):VC59 l a (fun r=>r=fp l a):=by
 unfold VC59
 intro hs
 simp only [sm] at hs
 obtain ⟨h0,h1⟩:=hp
 obtain ⟨n,rfl⟩:=Int.eq_ofNat_of_zero_le h0
 have hn:((n:Nat):Int).toNat=n:=by omega
 refine ⟨fun x=>∃ k:Nat,x=(k:Int) - 1∧k≤n∧l9 l (gi l (n:Int)).aK.ah k=fp l (n:Int),fun x=>(x+1).toNat,⟨n,by rw [wrp (by omega) (by omega)],by omega,by unfold fp; rw [hn]⟩,?_⟩
 rintro _ ⟨k,rfl,hk,hg⟩
 refine ⟨fun hi=>?_,fun hi=>?_⟩
 ·rw [decide_eq_true_eq] at hi
  obtain ⟨m,rfl⟩:∃ m,k=m+1:=⟨k - 1,by omega⟩
  have em:(((m+1:Nat):Int) - 1)=(m:Int):=by omega
  rw [em,wrp (n:=(m:Int) - 1) (by omega) (by omega)]
  rw [l9] at hg
  refine ⟨by omega,by omega,fun he=>⟨by omega,?_⟩,fun he=>⟨⟨m,rfl,by omega,?_⟩,by dsimp only; omega⟩⟩
  ·rw [if_pos (by simpa using he)] at hg; exact hg
  ·rw [if_neg (by simpa using he)] at hg; exact hg
 ·rw [decide_eq_false_iff_not] at hi
  have:k=0:=by omega
  subst this
  unfold VC59_J1
  exact hg
theorem yj {h:aj} (hb:pb h.ae):aA h=(-1,2):=by unfold aA; rw [if_pos hb]
theorem v28 (os:List al) (l:List aH) (hp:ko os l):VC28 os l (fun r=>r=du os l):=by
 obtain ⟨qV,nH⟩:=hp
 unfold VC28
 intro zn Cd
 simp only [sm] at zn Cd
 refine ⟨fun h1=>?_,fun h1=>?_⟩
 ·exact (yj (h:=⟨os,l.map toL⟩) (by
   unfold pb
   dsimp only
   simp at h1
   rcases h1 with h1 | h1
   ·exact .inl (by omega)
   ·exact .inr (.inl (by omega)))).symm
 have h1:¬ os.length < 1∧¬ os.length > 8:=by simp at h1; omega
 refine ⟨fun x=>∃ k:Nat,x=k∧k≤os.length∧∀ j:Nat,j < k→cG (gi os (j:Int))=false,fun x=>(os.length - x).toNat,⟨0,rfl,by omega,fun j hj=>by omega⟩,?_⟩
 rintro _ ⟨k,rfl,hk,hb⟩
 refine ⟨fun hi=>?_,fun hi=>?_⟩
 ·rw [decide_eq_true_eq] at hi
  rw [wrp (n:=(k:Int)+1) (by omega) (by omega)]
  refine ⟨⟨by omega,hi⟩,fun _=>?_⟩
  rintro _ rfl
  refine ⟨fun hc=>?_,fun hc=>⟨⟨k+1,by push_cast; rfl,by omega,fun j hj=>?_⟩,by dsimp only; omega⟩⟩
  ·exact (yj (h:=⟨os,l.map toL⟩) (.inr (.inr (List.any_eq_true.2 ⟨_,ep (by omega) hi,hc⟩)))).symm
  ·by_cases e:j=k
   ·subst e; exact hc
   ·exact hb j (by omega)
 ·rw [decide_eq_false_iff_not] at hi
  have FK:¬ pb os:=by
   rintro (hh | hh | hh)
   ·exact h1.1 hh
   ·exact h1.2 hh
   ·obtain ⟨o,ho,hc⟩:=List.any_eq_true.1 hh
    obtain ⟨i,Bd,rfl⟩:=List.getElem_of_mem ho
    have:=hb i (by omega)
    rw [cd _ _ Bd] at this
    rw [this] at hc; cases hc
  unfold VC28_J1
  refine ⟨nH,?_⟩
  rintro _ rfl _ _ rfl
  unfold du aA
  rw [if_neg FK,rE]
  have N9:eJ (cC l)=bw (cC l):=rfl
  rw [N9]
  refine ⟨fun he=>by rw [if_pos (by simpa using he)],fun he=>?_⟩
  have he:(bw (cC l)).2=0:=by simpa using he
  rw [if_neg (by rw [he]; decide)]
  dsimp only
  generalize hL:l.map toL=L
  have Pa:L.length=l.length:=by rw [← hL,List.length_map]
  refine ⟨fun x=>∃ k:Nat,x=k∧k≤l.length∧hGo os (L.drop k) k (jc (L.take k))=hGo os L 0 [],fun x=>(l.length - x).toNat,⟨0,rfl,by omega,rfl⟩,?_⟩
  rintro _ ⟨k,rfl,hk,hg⟩
  refine ⟨fun hi=>?_,fun hi=>?_⟩
  ·rw [decide_eq_true_eq] at hi
   have My:gi L (k:Int)=toL (gi l (k:Int)):=by rw [← hL]; exact Al (by omega)
   rw [qt (by omega),My,show de (jc (L.take k)) (toL (gi l (k:Int))).aK.ah (toL (gi l (k:Int))).aw=jc (L.take (k+1)) by rw [eE (by omega),kS,My]] at hg
   have hw:=wrp (n:=(k:Int)+1) (by omega) (by omega)
   refine ⟨⟨by omega,hi⟩,fun h1=>?_,fun h1=>?_⟩
   ·have e:hX os (jc (L.take k)) (toL (gi l (k:Int)))=2:=by unfold hX; rw [if_pos (by simpa [toL] using h1)]
    rw [e,if_pos (by decide)] at hg; exact hg
   ·have h1:¬ ((toL (gi l (k:Int))).aw < 0∨(toL (gi l (k:Int))).aw≥os.length):=by simpa [toL] using h1
    have j4:∀ z,(z=true→hX os (jc (L.take k)) (toL (gi l (k:Int)))=31)→(z=false→hX os (jc (L.take k)) (toL (gi l (k:Int)))=0)→VC28_J4 (fun r=>r=hGo os L 0 []) (fun x=>∃ k:Nat,x=k∧k≤l.length∧hGo os (L.drop k) k (jc (L.take k))=hGo os L 0 []) (fun x=>(l.length - x).toNat) (k:Int) z:=fun z Fv vE=>by
     unfold VC28_J4
     refine ⟨fun hz=>?_,fun hz=>?_⟩
     ·rw [Fv hz,if_pos (by decide)] at hg; exact hg
     ·rw [vE hz,if_neg (by decide)] at hg
      rw [hw]
      exact ⟨⟨k+1,by push_cast; rfl,by omega,by push_cast; exact hg⟩,by dsimp only; omega⟩
    have j3:∀ z,(z=true→hX os (jc (L.take k)) (toL (gi l (k:Int)))=32)→(z=false→hX os (jc (L.take k)) (toL (gi l (k:Int)))=if (gi l (k:Int)).aK.bh=1∧(gi l (k:Int)).aK.N≥(gi os (gi l (k:Int)).aw).ax then 31 else 0)→VC28_J3 os l (fun r=>r=hGo os L 0 []) (fun x=>∃ k:Nat,x=k∧k≤l.length∧hGo os (L.drop k) k (jc (L.take k))=hGo os L 0 []) (fun x=>(l.length - x).toNat) (k:Int) z:=fun z Fv vE=>by
     unfold VC28_J3
     refine ⟨fun hz=>?_,fun hz=>⟨fun hW=>⟨by dsimp only [toL] at h1; omega,j4 _ (fun hN=>?_) (fun hN=>?_)⟩,fun hW=>j4 _ (fun hN=>by cases hN) (fun _=>?_)⟩⟩
     ·rw [Fv hz,if_pos (by decide)] at hg; exact hg
     ·rw [vE hz,if_pos ⟨by simpa using hW,by simpa using hN⟩]
     ·rw [vE hz,if_neg (fun hh=>by have:=hh.2; simp at hN; omega)]
     ·rw [vE hz,if_neg (fun hh=>by have:=hh.1; simp at hW; omega)]
    refine ⟨fun hW=>⟨⟨by omega,hi⟩,?_⟩,fun hW=>j3 _ (fun hM=>by cases hM) (fun _=>?_)⟩
    ·rintro _ rfl
     have hW:(gi l (k:Int)).aK.bh=2:=by simpa using hW
     have Q6:(cC l).length=l.length:=by unfold cC; rw [List.length_map]
     have hx:=py he (k:=k) (by omega)
     have OJ:gi (cC l) (k:Int)=(gi l (k:Int)).aK:=iZ (fun x:aH=>x.aK) (l:=l) (i:=(k:Int)) (by omega) hi
     have Ou:dW ((cC l).take k) (gi l (k:Int)).aK.ah=1:=by
      rw [OJ] at hx
      rcases jz hx with ⟨w,_⟩ | ⟨_,w⟩
      ·omega
      ·exact w
     have hT:(L.take k).map (·.aK)=(cC l).take k:=by
      rw [← hL,List.map_take,List.map_map]; rfl
     have zp:=sb _ (L.take k) (by rw [hT]; exact Ou)
     have O2:fp l (k:Int)=(aC (jc (L.take k)) (gi l (k:Int)).aK.ah).getD 0:=by
      unfold fp
      rw [show ((k:Int)).toNat=k by omega,r8 _ k (by omega),hL]
      obtain ⟨v,hv⟩:=Option.isSome_iff_exists.1 zp
      rw [hv]; rfl
     rw [O2]
     refine j3 _ (fun hM=>?_) (fun hM=>?_)
     ·unfold hX; rw [if_neg h1,if_pos ⟨hW,by simpa [toL] using hM⟩]
     ·unfold hX; rw [if_neg h1,if_neg (fun hh=>by have:=hh.2; simp at hM; exact this hM)]; rfl
    ·unfold hX; rw [if_neg h1,if_neg (fun hh=>by have:=hh.1; simp at hW; dsimp only [toL] at this; omega)]; rfl
  ·rw [decide_eq_false_iff_not] at hi
   have:k=L.length:=by omega
   subst this
   unfold VC28_J2
   rw [List.drop_length,hGo,Pa] at hg
   exact hg
end Go.Proofs.YteahldlmkheleaaGreat
