/- The parts of a history, as the code finds them. -/
import Derived.Test.YteahldlmkheleaaGreatLV15
import Derived.Test.YteahldlmkheleaaGreatLV12
set_option linter.all false
namespace Go.Proofs.YteahldlmkheleaaGreat
open Go Go.Sv Go.Pu
theorem eV {α:Type} [Inhabited α] {l:List α} {k:Nat} (h:k < l.length):l.take (k+1)=l.take k++[gi l (k:Int)]:=by
 have:=n9 (l:=l) (i:=(k:Int)) (by omega) (by omega)
 rwa [show ((k:Int)+1).toNat=k+1 by omega,show ((k:Int)).toNat=k by omega] at this
theorem jA {α β:Type} [Inhabited α] [Inhabited β] (f:α→β) {l:List α} {i:Int} (h0:0≤i) (h1:i < l.length):gi (l.map f) i=f (gi l i):=by
 rw [jP h0 (by simpa using h1),jP h0 h1,List.getElem_map]
theorem v47 (h:ak) (hp:ln h):VC47 h (fun r=>r=bo h):=by
 unfold VC47 ln at *
 intro _ _
 refine ⟨fun out x=>∃ k:Nat,x=k∧k≤h.al.length∧out=(h.al.take k).map (·.aN),fun _ x=>(h.al.length - x).toNat,⟨0,rfl,by omega,rfl⟩,?_⟩
 rintro _ _ ⟨k,rfl,hk,rfl⟩
 refine ⟨fun hi=>?_,fun hi=>?_⟩
 ·rw [decide_eq_true_eq] at hi
  rw [wrp (n:=(k:Int)+1) (by omega) (by omega)]
  refine ⟨⟨by omega,hi⟩,by simp; omega,⟨k+1,by push_cast; rfl,by omega,?_⟩,by dsimp only; omega⟩
  rw [eV (by omega),List.map_append]; rfl
 ·rw [decide_eq_false_iff_not] at hi
  unfold VC47_J1 bo
  rw [List.take_of_length_le (by omega)]
theorem v52 (o:ao) (hp:kJ o):VC52 o (fun r=>r=cV o):=by
 intro _
 refine ⟨hp,?_⟩
 rintro _ rfl
 rfl
theorem v83_52 (l:List ao) (hp:mw l):VC83_52 l (fun r=>r=bd l):=by
 unfold VC83_52
 intro hs
 simp only [sm] at hs
 refine ⟨fun x=>∃ k:Nat,x=k∧k≤l.length∧∀ j:Nat,j < k→cV (gi l (j:Int))=false,fun x=>(l.length - x).toNat,⟨0,rfl,by omega,fun j hj=>by omega⟩,?_⟩
 rintro _ ⟨k,rfl,hk,hb⟩
 refine ⟨fun hi=>?_,fun hi=>?_⟩
 ·rw [decide_eq_true_eq] at hi
  rw [wrp (n:=(k:Int)+1) (by omega) (by omega)]
  refine ⟨⟨by omega,hi⟩,fun _=>?_⟩
  refine ⟨hp _ (eJ (by omega) hi),?_⟩
  rintro _ rfl
  refine ⟨fun hc=>?_,fun hc=>⟨⟨k+1,by push_cast; rfl,by omega,fun j hj=>?_⟩,by dsimp only; omega⟩⟩
  ·unfold bd
   rw [qj (l:=l) (f:=cV) (i:=(k:Int)) (by omega) (by omega) hc (fun j h0 h1=>by obtain ⟨n,rfl⟩:=Int.eq_ofNat_of_zero_le h0; exact hb n (by omega))]
   simp
  ·by_cases e:j=k
   ·subst e; exact hc
   ·exact hb j (by omega)
 ·rw [decide_eq_false_iff_not] at hi
  unfold VC83_52_J1 bd
  rw [qi (l:=l) (f:=cV) (fun j h0 h1=>by obtain ⟨n,rfl⟩:=Int.eq_ofNat_of_zero_le h0; exact hb n (by omega))]
theorem v54_52 (l:List ao) (hp:mw l):VC54_52 l (fun r=>r=aZ l):=by
 unfold VC54_52
 intro _
 refine ⟨hp,?_⟩
 rintro _ rfl
 unfold bd aZ
 cases e:l.findIdx? cV with
 | none =>
  rw [List.findIdx?_eq_none_iff] at e
  have:l.any cV=false:=List.any_eq_false.2 (fun x hx=>by rw [e x hx]; decide)
  rw [this]; rfl
 | some i =>
  obtain ⟨h1,h2,_⟩:=List.findIdx?_eq_some_iff_getElem.1 e
  have:l.any cV=true:=List.any_eq_true.2 ⟨l[i],List.getElem_mem _,h2⟩
  rw [this]
  exact decide_eq_true (show (0:Int)≤(i:Int) by omega)
theorem rn {os:List ao} {l:List aV} {k:Nat} {b:List (Int × Int)} (hk:k < l.length):hGo os (l.drop k) k b=if iE os b (gi l (k:Int))≠0 then ((k:Int),iE os b (gi l (k:Int))) else hGo os (l.drop (k+1)) ((k:Int)+1) (dp b (gi l (k:Int)).aN.ah (gi l (k:Int)).az):=by
 rw [gU hk,hGo]
theorem v23 (h:ak) (hp:gr h):VC23 h (fun r=>r=aD h):=by
 obtain ⟨rX,oA,Bi⟩:=hp
 have j1b:p6 h.ae→VC23_J1 h (fun r=>r=aD h) true:=fun hb=>by
  unfold VC23_J1 aD
  exact ⟨fun _=>by rw [if_pos hb],fun h0=>by cases h0⟩
 have Pm:¬ p6 h.ae→VC23_J1 h (fun r=>r=aD h) false:=fun hb=>by
  unfold VC23_J1
  refine ⟨fun h0=>(by cases h0),fun _=>⟨oA,?_⟩⟩
  rintro _ rfl _ _ rfl
  have hE:(⟨h.ae,h.al⟩:ak)=h:=rfl
  rw [hE]
  unfold aD
  rw [if_neg hb]
  refine ⟨fun he=>by rw [if_pos (by simpa using he)],fun he=>?_⟩
  rw [if_neg (by simpa using he)]
  refine ⟨fun b x=>∃ k:Nat,x=k∧k≤h.al.length∧hGo h.ae (h.al.drop k) k b=hGo h.ae h.al 0 [],fun _ x=>(h.al.length - x).toNat,⟨0,rfl,by omega,rfl⟩,?_⟩
  rintro b _ ⟨k,rfl,hk,hg⟩
  refine ⟨fun hi=>?_,fun hi=>?_⟩
  ·rw [decide_eq_true_eq] at hi
   rw [rn (by omega)] at hg
   have hw:=wrp (n:=(k:Int)+1) (by omega) (by omega)
   refine ⟨⟨by omega,hi⟩,fun h1=>?_,fun h1=>?_⟩
   ·have e:iE h.ae b (gi h.al (k:Int))=2:=by unfold iE; rw [if_pos (by simpa using h1)]
    rw [e,if_pos (by decide)] at hg; exact hg
   ·have h1:¬ ((gi h.al (k:Int)).az < 0∨(gi h.al (k:Int)).az≥h.ae.length):=by simpa using h1
    have j4:∀ z,(z=true→iE h.ae b (gi h.al (k:Int))=31)→(z=false→iE h.ae b (gi h.al (k:Int))=0)→VC23_J4 h (fun r=>r=hGo h.ae h.al 0 []) (fun b x=>∃ k:Nat,x=k∧k≤h.al.length∧hGo h.ae (h.al.drop k) k b=hGo h.ae h.al 0 []) (fun _ x=>(h.al.length - x).toNat) b (k:Int) z:=fun z GM wX=>by
     unfold VC23_J4
     refine ⟨fun hz=>?_,fun hz=>?_⟩
     ·rw [GM hz,if_pos (by decide)] at hg; exact hg
     ·rw [wX hz,if_neg (by decide)] at hg
      rw [hw]
      exact ⟨⟨k+1,by push_cast; rfl,by omega,by push_cast; exact hg⟩,by dsimp only; omega⟩
    have j3:∀ z,(z=true→iE h.ae b (gi h.al (k:Int))=32)→(z=false→iE h.ae b (gi h.al (k:Int))=if (gi h.al (k:Int)).aN.bm=1∧(gi h.al (k:Int)).aN.N≥(gi h.ae (gi h.al (k:Int)).az).aA then 31 else 0)→VC23_J3 h (fun r=>r=hGo h.ae h.al 0 []) (fun b x=>∃ k:Nat,x=k∧k≤h.al.length∧hGo h.ae (h.al.drop k) k b=hGo h.ae h.al 0 []) (fun _ x=>(h.al.length - x).toNat) b (k:Int) z:=fun z GM wX=>by
     unfold VC23_J3
     refine ⟨fun hz=>?_,fun hz=>⟨fun hW=>⟨by omega,j4 _ (fun hN=>?_) (fun hN=>?_)⟩,fun hW=>j4 _ (fun hN=>by cases hN) (fun _=>?_)⟩⟩
     ·rw [GM hz,if_pos (by decide)] at hg; exact hg
     ·rw [wX hz,if_pos ⟨by simpa using hW,by simpa using hN⟩]
     ·rw [wX hz,if_neg (fun hh=>by have:=hh.2; simp at hN; omega)]
     ·rw [wX hz,if_neg (fun hh=>by have:=hh.1; simp at hW; omega)]
    refine ⟨fun hW=>j3 _ (fun hM=>?_) (fun hM=>?_),fun hW=>j3 _ (fun hM=>by cases hM) (fun _=>?_)⟩
    ·unfold iE; rw [if_neg h1,if_pos ⟨by simpa using hW,by simpa using hM⟩]
    ·unfold iE; rw [if_neg h1,if_neg (fun hh=>by have:=hh.2; simp at hM; omega)]
    ·unfold iE; rw [if_neg h1,if_neg (fun hh=>by have:=hh.1; simp at hW; omega)]
  ·rw [decide_eq_false_iff_not] at hi
   have:k=h.al.length:=by omega
   subst this
   unfold VC23_J2
   rw [List.drop_length,hGo] at hg
   exact hg
 unfold VC23
 intro _ _
 refine ⟨fun h1=>j1b ?_,fun h1=>⟨rX,?_⟩⟩
 ·unfold p6; simp at h1; omega
 ·rintro _ rfl
  have h1:¬ h.ae.length < 1∧¬ h.ae.length > 8:=by simp at h1; omega
  cases e:aZ h.ae with
  | true=>exact j1b (.inr (.inr e))
  | false =>
   refine Pm ?_
   rintro (hh | hh | hh)
   ·exact h1.1 hh
   ·exact h1.2 hh
   ·unfold aZ at e; rw [e] at hh; cases hh
def jF (l:List aV):List (Int × Int):=l.foldl (fun b x=>dp b x.aN.ah x.az) []
theorem lF (l:List aV) (x:aV):jF (l++[x])=dp (jF l) x.aN.ah x.az:=by unfold jF; rw [List.foldl_append]; rfl
theorem tn (p:Int) (l:List aV):eA (l.map (·.aN)) p=1→(aF (jF l) p).isSome=true:=by
 refine u9 (P:=fun l=>eA (l.map (·.aN)) p=1→(aF (jF l) p).isSome=true) (fun h=>by simp [eA] at h) (fun l x ih h=>?_) l
 rw [List.map_append,List.map_cons,List.map_nil,fk] at h
 rw [lF,fc]
 by_cases e:p=x.aN.ah
 ·rw [if_pos e]; rfl
 ·rw [if_neg e]; rw [if_neg (fun hh=>e hh.symm)] at h; exact ih h
theorem Bz {l:List aK} {k:Nat} (hk:k < l.length):gi (l.map toL) (k:Int)=toL (gi l (k:Int)):=jA toL (by omega) (by omega)
theorem tj {l:List aK} (p:Int):∀ k:Nat,k≤l.length→mS l p k=(aF (jF ((l.map toL).take k)) p).getD (-1)
 | 0,_=>rfl
 | k+1,hk=>by
  rw [mS,eV (by rw [List.length_map]; omega),lF,fc,Bz (by omega),tj p k (by omega)]
  by_cases e:(gi l (k:Int)).aN.ah=p
  ·rw [if_pos e,if_pos (by rw [← e]; rfl)]; rfl
  ·rw [if_neg e,if_neg (fun hh=>e (by rw [hh]; rfl))]
theorem sI (os:List ao) (l:List aK):bo ⟨os,l.map toL⟩=cS l:=by
 unfold bo cS; rw [List.map_map]; rfl
theorem v45 (l:List aK) (hp:sB l):VC45 l (fun r=>r=cS l):=by
 unfold VC45 sB at *
 intro _
 refine ⟨fun out x=>∃ k:Nat,x=k∧k≤l.length∧out=(l.take k).map (·.aN),fun _ x=>(l.length - x).toNat,⟨0,rfl,by omega,rfl⟩,?_⟩
 rintro _ _ ⟨k,rfl,hk,rfl⟩
 refine ⟨fun hi=>?_,fun hi=>?_⟩
 ·rw [decide_eq_true_eq] at hi
  rw [wrp (n:=(k:Int)+1) (by omega) (by omega)]
  refine ⟨⟨by omega,hi⟩,by simp; omega,⟨k+1,by push_cast; rfl,by omega,?_⟩,by dsimp only; omega⟩
  rw [eV (by omega),List.map_append]; rfl
 ·rw [decide_eq_false_iff_not] at hi
  unfold VC45_J1 cS
  rw [List.take_of_length_le (by omega)]
theorem v59 (l:List aK) (a:Int) (hp:tS l a):VC59 l a (fun r=>r=fL l a):=by
 unfold VC59
 intro hs
 simp only [sm] at hs
 obtain ⟨h0,h1⟩:=hp
 obtain ⟨n,rfl⟩:=Int.eq_ofNat_of_zero_le h0
 have hn:((n:Nat):Int).toNat=n:=by omega
 refine ⟨fun x=>∃ k:Nat,x=(k:Int) - 1∧k≤n∧mS l (gi l (n:Int)).aN.ah k=fL l (n:Int),fun x=>(x+1).toNat,⟨n,by rw [wrp (by omega) (by omega)],by omega,by unfold fL; rw [hn]⟩,?_⟩
 rintro _ ⟨k,rfl,hk,hg⟩
 refine ⟨fun hi=>?_,fun hi=>?_⟩
 ·rw [decide_eq_true_eq] at hi
  obtain ⟨m,rfl⟩:∃ m,k=m+1:=⟨k - 1,by omega⟩
  have em:(((m+1:Nat):Int) - 1)=(m:Int):=by omega
  rw [em,wrp (n:=(m:Int) - 1) (by omega) (by omega)]
  rw [mS] at hg
  refine ⟨by omega,by omega,fun he=>⟨by omega,?_⟩,fun he=>⟨⟨m,rfl,by omega,?_⟩,by dsimp only; omega⟩⟩
  ·rw [if_pos (by simpa using he)] at hg; exact hg
  ·rw [if_neg (by simpa using he)] at hg; exact hg
 ·rw [decide_eq_false_iff_not] at hi
  have:k=0:=by omega
  subst this
  unfold VC59_J1
  exact hg
theorem zL {h:ak} (hb:p6 h.ae):aD h=(-1,2):=by unfold aD; rw [if_pos hb]
theorem v28 (os:List ao) (l:List aK) (hp:k5 os l):VC28 os l (fun r=>r=dE os l):=by
 obtain ⟨rX,oA⟩:=hp
 unfold VC28
 intro AF Du
 simp only [sm] at AF Du
 refine ⟨fun h1=>?_,fun h1=>?_⟩
 ·exact (zL (h:=⟨os,l.map toL⟩) (by
   unfold p6
   dsimp only
   simp at h1
   rcases h1 with h1 | h1
   ·exact .inl (by omega)
   ·exact .inr (.inl (by omega)))).symm
 have h1:¬ os.length < 1∧¬ os.length > 8:=by simp at h1; omega
 refine ⟨fun x=>∃ k:Nat,x=k∧k≤os.length∧∀ j:Nat,j < k→cV (gi os (j:Int))=false,fun x=>(os.length - x).toNat,⟨0,rfl,by omega,fun j hj=>by omega⟩,?_⟩
 rintro _ ⟨k,rfl,hk,hb⟩
 refine ⟨fun hi=>?_,fun hi=>?_⟩
 ·rw [decide_eq_true_eq] at hi
  rw [wrp (n:=(k:Int)+1) (by omega) (by omega)]
  refine ⟨⟨by omega,hi⟩,fun _=>?_⟩
  rintro _ rfl
  refine ⟨fun hc=>?_,fun hc=>⟨⟨k+1,by push_cast; rfl,by omega,fun j hj=>?_⟩,by dsimp only; omega⟩⟩
  ·exact (zL (h:=⟨os,l.map toL⟩) (.inr (.inr (List.any_eq_true.2 ⟨_,eJ (by omega) hi,hc⟩)))).symm
  ·by_cases e:j=k
   ·subst e; exact hc
   ·exact hb j (by omega)
 ·rw [decide_eq_false_iff_not] at hi
  have G2:¬ p6 os:=by
   rintro (hh | hh | hh)
   ·exact h1.1 hh
   ·exact h1.2 hh
   ·obtain ⟨o,ho,hc⟩:=List.any_eq_true.1 hh
    obtain ⟨i,Cs,rfl⟩:=List.getElem_of_mem ho
    have:=hb i (by omega)
    rw [cq _ _ Cs] at this
    rw [this] at hc; cases hc
  unfold VC28_J1
  refine ⟨oA,?_⟩
  rintro _ rfl _ _ rfl
  unfold dE aD
  rw [if_neg G2,sI]
  have PG:e7 (cS l)=bE (cS l):=rfl
  rw [PG]
  refine ⟨fun he=>by rw [if_pos (by simpa using he)],fun he=>?_⟩
  have he:(bE (cS l)).2=0:=by simpa using he
  rw [if_neg (by rw [he]; decide)]
  dsimp only
  generalize hL:l.map toL=L
  have QE:L.length=l.length:=by rw [← hL,List.length_map]
  refine ⟨fun x=>∃ k:Nat,x=k∧k≤l.length∧hGo os (L.drop k) k (jF (L.take k))=hGo os L 0 [],fun x=>(l.length - x).toNat,⟨0,rfl,by omega,rfl⟩,?_⟩
  rintro _ ⟨k,rfl,hk,hg⟩
  refine ⟨fun hi=>?_,fun hi=>?_⟩
  ·rw [decide_eq_true_eq] at hi
   have NZ:gi L (k:Int)=toL (gi l (k:Int)):=by rw [← hL]; exact Bz (by omega)
   rw [rn (by omega),NZ,show dp (jF (L.take k)) (toL (gi l (k:Int))).aN.ah (toL (gi l (k:Int))).az=jF (L.take (k+1)) by rw [eV (by omega),lF,NZ]] at hg
   have hw:=wrp (n:=(k:Int)+1) (by omega) (by omega)
   refine ⟨⟨by omega,hi⟩,fun h1=>?_,fun h1=>?_⟩
   ·have e:iE os (jF (L.take k)) (toL (gi l (k:Int)))=2:=by unfold iE; rw [if_pos (by simpa [toL] using h1)]
    rw [e,if_pos (by decide)] at hg; exact hg
   ·have h1:¬ ((toL (gi l (k:Int))).az < 0∨(toL (gi l (k:Int))).az≥os.length):=by simpa [toL] using h1
    have j4:∀ z,(z=true→iE os (jF (L.take k)) (toL (gi l (k:Int)))=31)→(z=false→iE os (jF (L.take k)) (toL (gi l (k:Int)))=0)→VC28_J4 (fun r=>r=hGo os L 0 []) (fun x=>∃ k:Nat,x=k∧k≤l.length∧hGo os (L.drop k) k (jF (L.take k))=hGo os L 0 []) (fun x=>(l.length - x).toNat) (k:Int) z:=fun z GM wX=>by
     unfold VC28_J4
     refine ⟨fun hz=>?_,fun hz=>?_⟩
     ·rw [GM hz,if_pos (by decide)] at hg; exact hg
     ·rw [wX hz,if_neg (by decide)] at hg
      rw [hw]
      exact ⟨⟨k+1,by push_cast; rfl,by omega,by push_cast; exact hg⟩,by dsimp only; omega⟩
    have j3:∀ z,(z=true→iE os (jF (L.take k)) (toL (gi l (k:Int)))=32)→(z=false→iE os (jF (L.take k)) (toL (gi l (k:Int)))=if (gi l (k:Int)).aN.bm=1∧(gi l (k:Int)).aN.N≥(gi os (gi l (k:Int)).az).aA then 31 else 0)→VC28_J3 os l (fun r=>r=hGo os L 0 []) (fun x=>∃ k:Nat,x=k∧k≤l.length∧hGo os (L.drop k) k (jF (L.take k))=hGo os L 0 []) (fun x=>(l.length - x).toNat) (k:Int) z:=fun z GM wX=>by
     unfold VC28_J3
     refine ⟨fun hz=>?_,fun hz=>⟨fun hW=>⟨by dsimp only [toL] at h1; omega,j4 _ (fun hN=>?_) (fun hN=>?_)⟩,fun hW=>j4 _ (fun hN=>by cases hN) (fun _=>?_)⟩⟩
     ·rw [GM hz,if_pos (by decide)] at hg; exact hg
     ·rw [wX hz,if_pos ⟨by simpa using hW,by simpa using hN⟩]
     ·rw [wX hz,if_neg (fun hh=>by have:=hh.2; simp at hN; omega)]
     ·rw [wX hz,if_neg (fun hh=>by have:=hh.1; simp at hW; omega)]
    refine ⟨fun hW=>⟨⟨by omega,hi⟩,?_⟩,fun hW=>j3 _ (fun hM=>by cases hM) (fun _=>?_)⟩
    ·rintro _ rfl
     have hW:(gi l (k:Int)).aN.bm=2:=by simpa using hW
     have SG:(cS l).length=l.length:=by unfold cS; rw [List.length_map]
     have hx:=qk he (k:=k) (by omega)
     have Qf:gi (cS l) (k:Int)=(gi l (k:Int)).aN:=jA (fun x:aK=>x.aN) (l:=l) (i:=(k:Int)) (by omega) hi
     have PZ:eA ((cS l).take k) (gi l (k:Int)).aN.ah=1:=by
      rw [Qf] at hx
      rcases ka hx with ⟨w,_⟩ | ⟨_,w⟩
      ·omega
      ·exact w
     have hT:(L.take k).map (·.aN)=(cS l).take k:=by
      rw [← hL,List.map_take,List.map_map]; rfl
     have AG:=tn _ (L.take k) (by rw [hT]; exact PZ)
     have Qw:fL l (k:Int)=(aF (jF (L.take k)) (gi l (k:Int)).aN.ah).getD 0:=by
      unfold fL
      rw [show ((k:Int)).toNat=k by omega,tj _ k (by omega),hL]
      obtain ⟨v,hv⟩:=Option.isSome_iff_exists.1 AG
      rw [hv]; rfl
     rw [Qw]
     refine j3 _ (fun hM=>?_) (fun hM=>?_)
     ·unfold iE; rw [if_neg h1,if_pos ⟨hW,by simpa [toL] using hM⟩]
     ·unfold iE; rw [if_neg h1,if_neg (fun hh=>by have:=hh.2; simp at hM; exact this hM)]; rfl
    ·unfold iE; rw [if_neg h1,if_neg (fun hh=>by have:=hh.1; simp at hW; dsimp only [toL] at this; omega)]; rfl
  ·rw [decide_eq_false_iff_not] at hi
   have:k=L.length:=by omega
   subst this
   unfold VC28_J2
   rw [List.drop_length,hGo,QE] at hg
   exact hg
end Go.Proofs.YteahldlmkheleaaGreat
