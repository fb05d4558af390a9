/- The parts of a history, as the code finds them. -/
import Derived.Test.YteahldlmkheleaaGreatLV15
import Derived.Test.YteahldlmkheleaaGreatLV12
set_option linter.all false
namespace Go.Proofs.YteahldlmkheleaaGreat
open Go Go.Sv Go.Pu
theorem fy {α:Type} [Inhabited α] {l:List α} {k:Nat} (h:k < l.length):l.take (k+1)=l.take k++[gi l (k:Int)]:=by
 have:=lG (l:=l) (i:=(k:Int)) (by omega) (by omega)
 rwa [show ((k:Int)+1).toNat=k+1 by omega,show ((k:Int)).toNat=k by omega] at this
theorem ld {α β:Type} [Inhabited α] [Inhabited β] (f:α→β) {l:List α} {i:Int} (h0:0≤i) (h1:i < l.length):gi (l.map f) i=f (gi l i):=by
 rw [jU h0 (by simpa using h1),jU h0 h1,List.getElem_map]
theorem v47 (h:al) (hp:l5 h):VC47 h (fun r=>r=bT h):=by
 unfold VC47 l5 at *
 intro _ _
 refine ⟨fun out x=>∃ k:Nat,x=k∧k≤h.aq.length∧out=(h.aq.take k).map (·.aW),fun _ x=>(h.aq.length - x).toNat,⟨0,rfl,by omega,rfl⟩,?_⟩
 rintro _ _ ⟨k,rfl,hk,rfl⟩
 refine ⟨fun hi=>?_,fun hi=>?_⟩
 ·rw [decide_eq_true_eq] at hi
  rw [wrp (n:=(k:Int)+1) (by omega) (by omega)]
  refine ⟨⟨by omega,hi⟩,by simp; omega,⟨k+1,by push_cast; rfl,by omega,?_⟩,by dsimp only; omega⟩
  rw [fy (by omega),List.map_append]; rfl
 ·rw [decide_eq_false_iff_not] at hi
  unfold VC47_J1 bT
  rw [List.take_of_length_le (by omega)]
theorem v52 (o:aj) (hp:kL o):VC52 o (fun r=>r=cZ o):=by
 intro _
 refine ⟨hp,?_⟩
 rintro _ rfl
 rfl
theorem v83_52 (l:List aj) (hp:l6 l):VC83_52 l (fun r=>r=bc l):=by
 unfold VC83_52
 intro hs
 simp only [sm] at hs
 refine ⟨fun x=>∃ k:Nat,x=k∧k≤l.length∧∀ j:Nat,j < k→cZ (gi l (j:Int))=false,fun x=>(l.length - x).toNat,⟨0,rfl,by omega,fun j hj=>by omega⟩,?_⟩
 rintro _ ⟨k,rfl,hk,hb⟩
 refine ⟨fun hi=>?_,fun hi=>?_⟩
 ·rw [decide_eq_true_eq] at hi
  rw [wrp (n:=(k:Int)+1) (by omega) (by omega)]
  refine ⟨⟨by omega,hi⟩,fun _=>?_⟩
  refine ⟨hp _ (dB (by omega) hi),?_⟩
  rintro _ rfl
  refine ⟨fun hc=>?_,fun hc=>⟨⟨k+1,by push_cast; rfl,by omega,fun j hj=>?_⟩,by dsimp only; omega⟩⟩
  ·unfold bc
   rw [qh (l:=l) (f:=cZ) (i:=(k:Int)) (by omega) (by omega) hc (fun j h0 h1=>by obtain ⟨n,rfl⟩:=Int.eq_ofNat_of_zero_le h0; exact hb n (by omega))]
   simp
  ·by_cases e:j=k
   ·subst e; exact hc
   ·exact hb j (by omega)
 ·rw [decide_eq_false_iff_not] at hi
  unfold VC83_52_J1 bc
  rw [qg (l:=l) (f:=cZ) (fun j h0 h1=>by obtain ⟨n,rfl⟩:=Int.eq_ofNat_of_zero_le h0; exact hb n (by omega))]
theorem v54_52 (l:List aj) (hp:l6 l):VC54_52 l (fun r=>r=aZ l):=by
 unfold VC54_52
 intro _
 refine ⟨hp,?_⟩
 rintro _ rfl
 unfold bc aZ
 cases e:l.findIdx? cZ with
 | none =>
  rw [List.findIdx?_eq_none_iff] at e
  have:l.any cZ=false:=List.any_eq_false.2 (fun x hx=>by rw [e x hx]; decide)
  rw [this]; rfl
 | some i =>
  obtain ⟨h1,h2,_⟩:=List.findIdx?_eq_some_iff_getElem.1 e
  have:l.any cZ=true:=List.any_eq_true.2 ⟨l[i],List.getElem_mem _,h2⟩
  rw [this]
  exact decide_eq_true (show (0:Int)≤(i:Int) by omega)
theorem vG {os:List aj} {l:List bd} {k:Nat} {b:List (Int × Int)} (hk:k < l.length):hGo os (l.drop k) k b=if jv os b (gi l (k:Int))≠0 then ((k:Int),jv os b (gi l (k:Int))) else hGo os (l.drop (k+1)) ((k:Int)+1) (dv b (gi l (k:Int)).aW.ak (gi l (k:Int)).aA):=by
 rw [hX hk,hGo]
theorem v23 (h:al) (hp:gl h):VC23 h (fun r=>r=aE h):=by
 obtain ⟨pZ,np,za⟩:=hp
 have j1b:p1 h.ae→VC23_J1 h (fun r=>r=aE h) true:=fun hb=>by
  unfold VC23_J1 aE
  exact ⟨fun _=>by rw [if_pos hb],fun h0=>by cases h0⟩
 have PQ:¬ p1 h.ae→VC23_J1 h (fun r=>r=aE h) false:=fun hb=>by
  unfold VC23_J1
  refine ⟨fun h0=>(by cases h0),fun _=>⟨np,?_⟩⟩
  rintro _ rfl _ _ rfl
  have hE:(⟨h.ae,h.aq⟩:al)=h:=rfl
  rw [hE]
  unfold aE
  rw [if_neg hb]
  refine ⟨fun he=>by rw [if_pos (by simpa using he)],fun he=>?_⟩
  rw [if_neg (by simpa using he)]
  refine ⟨fun b x=>∃ k:Nat,x=k∧k≤h.aq.length∧hGo h.ae (h.aq.drop k) k b=hGo h.ae h.aq 0 [],fun _ x=>(h.aq.length - x).toNat,⟨0,rfl,by omega,rfl⟩,?_⟩
  rintro b _ ⟨k,rfl,hk,hg⟩
  refine ⟨fun hi=>?_,fun hi=>?_⟩
  ·rw [decide_eq_true_eq] at hi
   rw [vG (by omega)] at hg
   have hw:=wrp (n:=(k:Int)+1) (by omega) (by omega)
   refine ⟨⟨by omega,hi⟩,fun h1=>?_,fun h1=>?_⟩
   ·have e:jv h.ae b (gi h.aq (k:Int))=2:=by unfold jv; rw [if_pos (by simpa using h1)]
    rw [e,if_pos (by decide)] at hg; exact hg
   ·have h1:¬ ((gi h.aq (k:Int)).aA < 0∨(gi h.aq (k:Int)).aA≥h.ae.length):=by simpa using h1
    have j4:∀ z,(z=true→jv h.ae b (gi h.aq (k:Int))=31)→(z=false→jv h.ae b (gi h.aq (k:Int))=0)→VC23_J4 h (fun r=>r=hGo h.ae h.aq 0 []) (fun b x=>∃ k:Nat,x=k∧k≤h.aq.length∧hGo h.ae (h.aq.drop k) k b=hGo h.ae h.aq 0 []) (fun _ x=>(h.aq.length - x).toNat) b (k:Int) z:=fun z G6 wF=>by
     unfold VC23_J4
     refine ⟨fun hz=>?_,fun hz=>?_⟩
     ·rw [G6 hz,if_pos (by decide)] at hg; exact hg
     ·rw [wF hz,if_neg (by decide)] at hg
      rw [hw]
      exact ⟨⟨k+1,by push_cast; rfl,by omega,by push_cast; exact hg⟩,by dsimp only; omega⟩
    have j3:∀ z,(z=true→jv h.ae b (gi h.aq (k:Int))=32)→(z=false→jv h.ae b (gi h.aq (k:Int))=if (gi h.aq (k:Int)).aW.bo=1∧(gi h.aq (k:Int)).aW.N≥(gi h.ae (gi h.aq (k:Int)).aA).az then 31 else 0)→VC23_J3 h (fun r=>r=hGo h.ae h.aq 0 []) (fun b x=>∃ k:Nat,x=k∧k≤h.aq.length∧hGo h.ae (h.aq.drop k) k b=hGo h.ae h.aq 0 []) (fun _ x=>(h.aq.length - x).toNat) b (k:Int) z:=fun z G6 wF=>by
     unfold VC23_J3
     refine ⟨fun hz=>?_,fun hz=>⟨fun hW=>⟨by omega,j4 _ (fun hN=>?_) (fun hN=>?_)⟩,fun hW=>j4 _ (fun hN=>by cases hN) (fun _=>?_)⟩⟩
     ·rw [G6 hz,if_pos (by decide)] at hg; exact hg
     ·rw [wF hz,if_pos ⟨by simpa using hW,by simpa using hN⟩]
     ·rw [wF hz,if_neg (fun hh=>by have:=hh.2; simp at hN; omega)]
     ·rw [wF hz,if_neg (fun hh=>by have:=hh.1; simp at hW; omega)]
    refine ⟨fun hW=>j3 _ (fun hM=>?_) (fun hM=>?_),fun hW=>j3 _ (fun hM=>by cases hM) (fun _=>?_)⟩
    ·unfold jv; rw [if_neg h1,if_pos ⟨by simpa using hW,by simpa using hM⟩]
    ·unfold jv; rw [if_neg h1,if_neg (fun hh=>by have:=hh.2; simp at hM; omega)]
    ·unfold jv; rw [if_neg h1,if_neg (fun hh=>by have:=hh.1; simp at hW; omega)]
  ·rw [decide_eq_false_iff_not] at hi
   have:k=h.aq.length:=by omega
   subst this
   unfold VC23_J2
   rw [List.drop_length,hGo] at hg
   exact hg
 unfold VC23
 intro _ _
 refine ⟨fun h1=>j1b ?_,fun h1=>⟨pZ,?_⟩⟩
 ·unfold p1; simp at h1; omega
 ·rintro _ rfl
  have h1:¬ h.ae.length < 1∧¬ h.ae.length > 8:=by simp at h1; omega
  cases e:aZ h.ae with
  | true=>exact j1b (.inr (.inr e))
  | false =>
   refine PQ ?_
   rintro (hh | hh | hh)
   ·exact h1.1 hh
   ·exact h1.2 hh
   ·unfold aZ at e; rw [e] at hh; cases hh
def mE (l:List bd):List (Int × Int):=l.foldl (fun b x=>dv b x.aW.ak x.aA) []
theorem pg (l:List bd) (x:bd):mE (l++[x])=dv (mE l) x.aW.ak x.aA:=by unfold mE; rw [List.foldl_append]; rfl
theorem AM (p:Int) (l:List bd):fJ (l.map (·.aW)) p=1→(aF (mE l) p).isSome=true:=by
 refine uT (P:=fun l=>fJ (l.map (·.aW)) p=1→(aF (mE l) p).isSome=true) (fun h=>by simp [fJ] at h) (fun l x ih h=>?_) l
 rw [List.map_append,List.map_cons,List.map_nil,gy] at h
 rw [pg,fm]
 by_cases e:p=x.aW.ak
 ·rw [if_pos e]; rfl
 ·rw [if_neg e]; rw [if_neg (fun hh=>e hh.symm)] at h; exact ih h
theorem Bx {l:List aG} {k:Nat} (hk:k < l.length):gi (l.map toL) (k:Int)=toL (gi l (k:Int)):=ld toL (by omega) (by omega)
theorem tb {l:List aG} (p:Int):∀ k:Nat,k≤l.length→mP l p k=(aF (mE ((l.map toL).take k)) p).getD (-1)
 | 0,_=>rfl
 | k+1,hk=>by
  rw [mP,fy (by rw [List.length_map]; omega),pg,fm,Bx (by omega),tb p k (by omega)]
  by_cases e:(gi l (k:Int)).aW.ak=p
  ·rw [if_pos e,if_pos (by rw [← e]; rfl)]; rfl
  ·rw [if_neg e,if_neg (fun hh=>e (by rw [hh]; rfl))]
theorem mK (os:List aj) (l:List aG):bT ⟨os,l.map toL⟩=cv l:=by
 unfold bT cv; rw [List.map_map]; rfl
theorem v45 (l:List aG) (hp:ss l):VC45 l (fun r=>r=cv l):=by
 unfold VC45 ss at *
 intro _
 refine ⟨fun out x=>∃ k:Nat,x=k∧k≤l.length∧out=(l.take k).map (·.aW),fun _ x=>(l.length - x).toNat,⟨0,rfl,by omega,rfl⟩,?_⟩
 rintro _ _ ⟨k,rfl,hk,rfl⟩
 refine ⟨fun hi=>?_,fun hi=>?_⟩
 ·rw [decide_eq_true_eq] at hi
  rw [wrp (n:=(k:Int)+1) (by omega) (by omega)]
  refine ⟨⟨by omega,hi⟩,by simp; omega,⟨k+1,by push_cast; rfl,by omega,?_⟩,by dsimp only; omega⟩
  rw [fy (by omega),List.map_append]; rfl
 ·rw [decide_eq_false_iff_not] at hi
  unfold VC45_J1 cv
  rw [List.take_of_length_le (by omega)]
theorem v59 (l:List aG) (a:Int) (hp:tL l a):VC59 l a (fun r=>r=fG l a):=by
 unfold VC59
 intro hs
 simp only [sm] at hs
 obtain ⟨h0,h1⟩:=hp
 obtain ⟨n,rfl⟩:=Int.eq_ofNat_of_zero_le h0
 have hn:((n:Nat):Int).toNat=n:=by omega
 refine ⟨fun x=>∃ k:Nat,x=(k:Int) - 1∧k≤n∧mP l (gi l (n:Int)).aW.ak k=fG l (n:Int),fun x=>(x+1).toNat,⟨n,by rw [wrp (by omega) (by omega)],by omega,by unfold fG; rw [hn]⟩,?_⟩
 rintro _ ⟨k,rfl,hk,hg⟩
 refine ⟨fun hi=>?_,fun hi=>?_⟩
 ·rw [decide_eq_true_eq] at hi
  obtain ⟨m,rfl⟩:∃ m,k=m+1:=⟨k - 1,by omega⟩
  have em:(((m+1:Nat):Int) - 1)=(m:Int):=by omega
  rw [em,wrp (n:=(m:Int) - 1) (by omega) (by omega)]
  rw [mP] at hg
  refine ⟨by omega,by omega,fun he=>⟨by omega,?_⟩,fun he=>⟨⟨m,rfl,by omega,?_⟩,by dsimp only; omega⟩⟩
  ·rw [if_pos (by simpa using he)] at hg; exact hg
  ·rw [if_neg (by simpa using he)] at hg; exact hg
 ·rw [decide_eq_false_iff_not] at hi
  have:k=0:=by omega
  subst this
  unfold VC59_J1
  exact hg
theorem zu {h:al} (hb:p1 h.ae):aE h=(-1,2):=by unfold aE; rw [if_pos hb]
theorem v28 (os:List aj) (l:List aG) (hp:k5 os l):VC28 os l (fun r=>r=dJ os l):=by
 obtain ⟨pZ,np⟩:=hp
 unfold VC28
 intro yV DA
 simp only [sm] at yV DA
 refine ⟨fun h1=>?_,fun h1=>?_⟩
 ·exact (zu (h:=⟨os,l.map toL⟩) (by
   unfold p1
   dsimp only
   simp at h1
   rcases h1 with h1 | h1
   ·exact .inl (by omega)
   ·exact .inr (.inl (by omega)))).symm
 have h1:¬ os.length < 1∧¬ os.length > 8:=by simp at h1; omega
 refine ⟨fun x=>∃ k:Nat,x=k∧k≤os.length∧∀ j:Nat,j < k→cZ (gi os (j:Int))=false,fun x=>(os.length - x).toNat,⟨0,rfl,by omega,fun j hj=>by omega⟩,?_⟩
 rintro _ ⟨k,rfl,hk,hb⟩
 refine ⟨fun hi=>?_,fun hi=>?_⟩
 ·rw [decide_eq_true_eq] at hi
  rw [wrp (n:=(k:Int)+1) (by omega) (by omega)]
  refine ⟨⟨by omega,hi⟩,fun _=>?_⟩
  rintro _ rfl
  refine ⟨fun hc=>?_,fun hc=>⟨⟨k+1,by push_cast; rfl,by omega,fun j hj=>?_⟩,by dsimp only; omega⟩⟩
  ·exact (zu (h:=⟨os,l.map toL⟩) (.inr (.inr (List.any_eq_true.2 ⟨_,dB (by omega) hi,hc⟩)))).symm
  ·by_cases e:j=k
   ·subst e; exact hc
   ·exact hb j (by omega)
 ·rw [decide_eq_false_iff_not] at hi
  have MV:¬ p1 os:=by
   rintro (hh | hh | hh)
   ·exact h1.1 hh
   ·exact h1.2 hh
   ·obtain ⟨o,ho,hc⟩:=List.any_eq_true.1 hh
    obtain ⟨i,Cn,rfl⟩:=List.getElem_of_mem ho
    have:=hb i (by omega)
    rw [bZ _ _ Cn] at this
    rw [this] at hc; cases hc
  unfold VC28_J1
  refine ⟨np,?_⟩
  rintro _ rfl _ _ rfl
  unfold dJ aE
  rw [if_neg MV,mK]
  have Qb:e6 (cv l)=bV (cv l):=rfl
  rw [Qb]
  refine ⟨fun he=>by rw [if_pos (by simpa using he)],fun he=>?_⟩
  have he:(bV (cv l)).2=0:=by simpa using he
  rw [if_neg (by rw [he]; decide)]
  dsimp only
  generalize hL:l.map toL=L
  have Ra:L.length=l.length:=by rw [← hL,List.length_map]
  refine ⟨fun x=>∃ k:Nat,x=k∧k≤l.length∧hGo os (L.drop k) k (mE (L.take k))=hGo os L 0 [],fun x=>(l.length - x).toNat,⟨0,rfl,by omega,rfl⟩,?_⟩
  rintro _ ⟨k,rfl,hk,hg⟩
  refine ⟨fun hi=>?_,fun hi=>?_⟩
  ·rw [decide_eq_true_eq] at hi
   have OH:gi L (k:Int)=toL (gi l (k:Int)):=by rw [← hL]; exact Bx (by omega)
   rw [vG (by omega),OH,show dv (mE (L.take k)) (toL (gi l (k:Int))).aW.ak (toL (gi l (k:Int))).aA=mE (L.take (k+1)) by rw [fy (by omega),pg,OH]] at hg
   have hw:=wrp (n:=(k:Int)+1) (by omega) (by omega)
   refine ⟨⟨by omega,hi⟩,fun h1=>?_,fun h1=>?_⟩
   ·have e:jv os (mE (L.take k)) (toL (gi l (k:Int)))=2:=by unfold jv; rw [if_pos (by simpa [toL] using h1)]
    rw [e,if_pos (by decide)] at hg; exact hg
   ·have h1:¬ ((toL (gi l (k:Int))).aA < 0∨(toL (gi l (k:Int))).aA≥os.length):=by simpa [toL] using h1
    have j4:∀ z,(z=true→jv os (mE (L.take k)) (toL (gi l (k:Int)))=31)→(z=false→jv os (mE (L.take k)) (toL (gi l (k:Int)))=0)→VC28_J4 (fun r=>r=hGo os L 0 []) (fun x=>∃ k:Nat,x=k∧k≤l.length∧hGo os (L.drop k) k (mE (L.take k))=hGo os L 0 []) (fun x=>(l.length - x).toNat) (k:Int) z:=fun z G6 wF=>by
     unfold VC28_J4
     refine ⟨fun hz=>?_,fun hz=>?_⟩
     ·rw [G6 hz,if_pos (by decide)] at hg; exact hg
     ·rw [wF hz,if_neg (by decide)] at hg
      rw [hw]
      exact ⟨⟨k+1,by push_cast; rfl,by omega,by push_cast; exact hg⟩,by dsimp only; omega⟩
    have j3:∀ z,(z=true→jv os (mE (L.take k)) (toL (gi l (k:Int)))=32)→(z=false→jv os (mE (L.take k)) (toL (gi l (k:Int)))=if (gi l (k:Int)).aW.bo=1∧(gi l (k:Int)).aW.N≥(gi os (gi l (k:Int)).aA).az then 31 else 0)→VC28_J3 os l (fun r=>r=hGo os L 0 []) (fun x=>∃ k:Nat,x=k∧k≤l.length∧hGo os (L.drop k) k (mE (L.take k))=hGo os L 0 []) (fun x=>(l.length - x).toNat) (k:Int) z:=fun z G6 wF=>by
     unfold VC28_J3
     refine ⟨fun hz=>?_,fun hz=>⟨fun hW=>⟨by dsimp only [toL] at h1; omega,j4 _ (fun hN=>?_) (fun hN=>?_)⟩,fun hW=>j4 _ (fun hN=>by cases hN) (fun _=>?_)⟩⟩
     ·rw [G6 hz,if_pos (by decide)] at hg; exact hg
     ·rw [wF hz,if_pos ⟨by simpa using hW,by simpa using hN⟩]
     ·rw [wF hz,if_neg (fun hh=>by have:=hh.2; simp at hN; omega)]
     ·rw [wF hz,if_neg (fun hh=>by have:=hh.1; simp at hW; omega)]
    refine ⟨fun hW=>⟨⟨by omega,hi⟩,?_⟩,fun hW=>j3 _ (fun hM=>by cases hM) (fun _=>?_)⟩
    ·rintro _ rfl
     have hW:(gi l (k:Int)).aW.bo=2:=by simpa using hW
     have Td:(cv l).length=l.length:=by unfold cv; rw [List.length_map]
     have hx:=uk he (k:=k) (by omega)
     have QL:gi (cv l) (k:Int)=(gi l (k:Int)).aW:=ld (fun x:aG=>x.aW) (l:=l) (i:=(k:Int)) (by omega) hi
     have Qw:fJ ((cv l).take k) (gi l (k:Int)).aW.ak=1:=by
      rw [QL] at hx
      rcases oe hx with ⟨w,_⟩ | ⟨_,w⟩
      ·omega
      ·exact w
     have hT:(L.take k).map (·.aW)=(cv l).take k:=by
      rw [← hL,List.map_take,List.map_map]; rfl
     have An:=AM _ (L.take k) (by rw [hT]; exact Qw)
     have Q2:fG l (k:Int)=(aF (mE (L.take k)) (gi l (k:Int)).aW.ak).getD 0:=by
      unfold fG
      rw [show ((k:Int)).toNat=k by omega,tb _ k (by omega),hL]
      obtain ⟨v,hv⟩:=Option.isSome_iff_exists.1 An
      rw [hv]; rfl
     rw [Q2]
     refine j3 _ (fun hM=>?_) (fun hM=>?_)
     ·unfold jv; rw [if_neg h1,if_pos ⟨hW,by simpa [toL] using hM⟩]
     ·unfold jv; rw [if_neg h1,if_neg (fun hh=>by have:=hh.2; simp at hM; exact this hM)]; rfl
    ·unfold jv; rw [if_neg h1,if_neg (fun hh=>by have:=hh.1; simp at hW; dsimp only [toL] at this; omega)]; rfl
  ·rw [decide_eq_false_iff_not] at hi
   have:k=L.length:=by omega
   subst this
   unfold VC28_J2
   rw [List.drop_length,hGo,Ra] at hg
   exact hg
end Go.Proofs.YteahldlmkheleaaGreat
