/- Lemmas. -/
import Derived.Test.YteahldlmkheleaaGreatLV16
set_option linter.all false
namespace Go.Proofs.YteahldlmkheleaaGreat
open Go Go.Sv Go.Pu
theorem qA {α:Type} (f:Int→Bool) (x:α):∀ (l:List α) (i:Int),gb f (l++[x]) i=gb f l i++(if f (i+l.length)=true then [x] else [])
 | [],i=>by simp [gb]
 | y :: l,i=>by
  rw [List.cons_append,gb,gb,qA f x l (i+1)]
  have e:i+1+(l.length:Int)=i+((y :: l).length:Int):=by simp only [List.length_cons]; push_cast; omega
  rw [e]
  split <;> rfl
theorem si {α:Type} (f:Int→Bool):∀ (l:List α) (i:Int),(gb f l i).length≤l.length
 | [],_=>by simp [gb]
 | y :: l,i=>by
  rw [gb]
  have:=si f l (i+1)
  split <;> simp <;> omega
theorem lI {α:Type} [Inhabited α] (f:Int→Bool) {l:List α} {k:Nat} (h:k < l.length):gb f (l.take (k+1)) 0=gb f (l.take k) 0++(if f (k:Int)=true then [gi l (k:Int)] else []):=by
 rw [eJ h,qA]
 have e:(0:Int)+((l.take k).length:Int)=(k:Int):=by rw [List.length_take]; omega
 rw [e]
theorem nm {α:Type} (f:Int→Bool) (l:List α) (k:Nat):(gb f (l.take k) 0).length≤k:=by
 have:=si f (l.take k) 0
 have:=List.length_take_le k l
 omega
theorem sj {α:Type} {f g:Int→Bool}:∀ (l:List α) (i:Int),(∀ j,i≤j→j < i+l.length→f j=g j)→gb f l i=gb g l i
 | [],_,_=>rfl
 | y :: l,i,h=>by
  rw [gb,gb,h i (by omega) (by simp only [List.length_cons]; push_cast; omega),sj l (i+1) (fun j h0 h1=>h j (by omega) (by simp only [List.length_cons]; push_cast; omega))]
theorem nS {α β:Type} [Inhabited α] (g:α→Bool) (e:α→β):∀ (K7 pre:List α),gb (fun i=>g (gi (pre++K7) i)) (K7.map e) pre.length=(K7.filter g).map e
 | [],_=>rfl
 | x :: r,pre=>by
  rw [List.map_cons,gb]
  have hx:gi (pre++x :: r) (pre.length:Int)=x:=by rw [cN _ _ (by simp)]; simp
  have ih:=nS g e r (pre++[x])
  rw [List.append_assoc,List.singleton_append] at ih
  have hl:((pre++[x]).length:Int)=(pre.length:Int)+1:=by simp
  rw [hl] at ih
  rw [hx,ih,List.filter_cons]
  split <;> rfl
theorem oI {α β:Type} [Inhabited α] (g:α→Bool) (e:α→β) (l:List α):gb (fun i=>g (gi l i)) (l.map e) 0=(l.filter g).map e:=nS g e l []
theorem v48 (i:Int) (h:ak) (k:Int) (hp:x4 i h k):VC48 i h k (fun r=>r=eN i h k):=by
 intro _ _
 exact ⟨hp,rfl⟩
theorem v46_48 (l:List au) (h:ak) (k:Int) (hp:ya l h k):VC46_48 l h k (fun r=>r=bO l h k):=by
 obtain ⟨oD,mq⟩:=hp
 unfold VC46_48
 intro _ _ _
 refine ⟨fun out x=>∃ t:Nat,x=t∧t≤l.length∧out=gb (fun i=>eN i h k) (l.take t) 0,fun _ x=>(l.length - x).toNat,⟨0,rfl,by omega,rfl⟩,?_⟩
 rintro _ _ ⟨t,rfl,ht,rfl⟩
 have hl:=nm (fun i=>eN i h k) l t
 refine ⟨fun hi=>?_,fun hi=>?_⟩
 ·rw [decide_eq_true_eq] at hi
  have hw:=wrp (n:=(t:Int)+1) (by omega) (by omega)
  have hs:=lI (fun i=>eN i h k) (l:=l) (k:=t) (by omega)
  refine ⟨⟨by omega,hi⟩,⟨by omega,show (t:Int) < h.al.length by omega⟩,?_⟩
  rintro _ rfl
  refine ⟨fun hc=>⟨by simp; omega,?_⟩,fun hc=>?_⟩ <;> unfold VC46_48_J2 <;> rw [hw] <;> refine ⟨⟨t+1,by push_cast; rfl,by omega,?_⟩,by dsimp only; omega⟩
  ·rw [hs,if_pos hc]
  ·rw [hs,if_neg (by rw [show eN (t:Int) h k=false from hc]; decide),List.append_nil]
 ·rw [decide_eq_false_iff_not] at hi
  unfold VC46_48_J1 bO
  rw [List.take_of_length_le (by omega)]
theorem DZ (h:ak) (k:Int):bO (bl h) h k=dt h.al k :=
 oI (fun x:aR=>x.ax == k) (fun x=>x.aI) h.al
theorem gp (h:ak):(bl h).length=h.al.length:=by unfold bl; rw [List.length_map]
theorem v17 (h:ak) (k:Int) (hp:yg h k):VC17 h k (fun r=>r=eF h k):=by
 obtain ⟨oD,mq,yG⟩:=hp
 unfold VC17
 intro _ _
 refine ⟨⟨oD,mq,yG⟩,?_⟩
 rintro _ rfl
 refine ⟨fun hb=>?_,fun hb=>⟨mq,?_⟩⟩
 ·unfold eF
  rw [if_pos (by unfold kU; simp at hb; omega)]
 ·rintro _ rfl _
  refine ⟨⟨by rw [gp]; omega,by rw [gp]; exact mq⟩,?_⟩
  rintro _ rfl _
  have hb:(aB h).2=0∧0≤k∧k < h.ah.length:=by simp at hb; omega
  refine ⟨hb.2,fun _=>⟨yG _ (e7 hb.2.1 hb.2.2),?_⟩⟩
  rintro _ rfl _
  unfold eF
  rw [if_neg (by unfold kU; omega),DZ]
  rfl
theorem jd {l:List aR} (k:Int) {t:Nat} (h:t < l.length):dt (l.take (t+1)) k=dt (l.take t) k++(if (gi l (t:Int)).ax == k then [(gi l (t:Int)).aI] else []):=by
 unfold dt
 rw [eJ h,List.filter_append,List.map_append,List.filter_cons,List.filter_nil]
 split <;> rfl
theorem qu (l:List aR) (k:Int) (t:Nat):(dt (l.take t) k).length≤t:=by
 unfold dt
 rw [List.length_map]
 have:=List.length_filter_le (fun x:aR=>x.ax == k) (l.take t)
 have:=List.length_take_le t l
 omega
theorem v29 (os:List ae) (l:List az) (k:Int) (hp:pL os l k):VC29 os l k (fun r=>r=de os l k):=by
 obtain ⟨oD,mq⟩:=hp
 unfold VC29
 intro _ _
 refine ⟨⟨oD,mq⟩,?_⟩
 rintro _ rfl
 refine ⟨fun hb=>?_,fun hb=>?_⟩
 ·unfold de
  rw [if_pos (by unfold kU; simp at hb; dsimp only; unfold cc at hb; omega)]
 ·have hb:¬ kU ⟨os,l.map toL⟩ k:=by unfold kU; simp at hb; dsimp only; unfold cc at hb; omega
  have Oh:(l.map toL).length=l.length:=by rw [List.length_map]
  refine ⟨fun out x=>∃ t:Nat,x=t∧t≤l.length∧out=dt ((l.map toL).take t) k,fun _ x=>(l.length - x).toNat,⟨0,rfl,by omega,rfl⟩,?_⟩
  rintro _ _ ⟨t,rfl,ht,rfl⟩
  have hl:=qu (l.map toL) k t
  refine ⟨fun hi=>?_,fun hi=>?_⟩
  ·rw [decide_eq_true_eq] at hi
   have hw:=wrp (n:=(t:Int)+1) (by omega) (by omega)
   have hs:=jd (l:=l.map toL) k (t:=t) (by omega)
   rw [wx (by omega)] at hs
   refine ⟨⟨by omega,hi⟩,fun hc=>⟨⟨by omega,hi⟩,by simp; omega,?_⟩,fun hc=>?_⟩ <;> unfold VC29_J2 <;> rw [hw] <;> refine ⟨⟨t+1,by push_cast; rfl,by omega,?_⟩,by dsimp only; omega⟩
   ·rw [hs,if_pos (show ((toL (gi l (t:Int))).ax == k)=true from hc)]; rfl
   ·rw [hs,if_neg (by rw [show ((toL (gi l (t:Int))).ax == k)=false from hc]; decide),List.append_nil]
  ·rw [decide_eq_false_iff_not] at hi
   unfold VC29_J1 de
   rw [if_neg hb,List.take_of_length_le (by omega)]
theorem iZ {h:ak} (hc:(aB h).2=0):(bA (bl h)).2=0∧¬ pA h.ah∧(hGo h.ah h.al 0 []).2=0:=by
 unfold aB at hc
 split at hc
 ·cases hc
 ·rename_i hb
  split at hc
  ·rename_i hh; exact absurd hc hh
  ·rename_i hh
   refine ⟨?_,hb,hc⟩
   exact Decidable.of_not_not hh
theorem nQ {l:List au} (h:(bA l).2=0):oA l (opsOf l):=by
 have:=wZ h l.length (by omega)
 rwa [List.take_length] at this
theorem pN {l:List au} (h:(bA l).2=0):(opsOf l).length≤l.length∧l.length≤10000:=by
 refine ⟨?_,(q5 h).1⟩
 have h1:=lA l
 have h2:fN l≤l.length:=by
  unfold fN
  have:=List.countP_le_length (p:=fun x:au=>x.bh == 1) (l:=l)
  omega
 omega
theorem tz {l:List au} (h:(bA l).2=0):fD l=(opsOf l,0):=by unfold fD; rw [if_neg (by omega)]
theorem yr {h:ak} (hc:(aB h).2=0) {i:Int} (h0:0≤i) (h1:i < (bB h).length):0≤(gi (bB h) i).aE∧(gi (bB h) i).aE < h.al.length:=by
 obtain ⟨n,rfl⟩:=Int.eq_ofNat_of_zero_le h0
 have H:=(nQ (iZ hc).1).one n (by unfold bB at h1; omega)
 have hl:=gp h
 exact ⟨(eU H.1).1,by have:=H.2.1; unfold bB; omega⟩
theorem v24 (h:ak) (hp:gg h):VC24 h (fun r=>r=cV h):=by
 obtain ⟨oD,mq,yG⟩:=hp
 unfold VC24
 intro _ _
 refine ⟨⟨oD,mq,yG⟩,?_⟩
 rintro _ rfl
 unfold cV
 refine ⟨fun hb=>by rw [if_pos (by simpa using hb)],fun hb=>⟨mq,?_⟩⟩
 have hb:(aB h).2=0:=by simpa using hb
 rw [if_neg (by omega)]
 rintro _ rfl _ _ rfl _
 have wg:(fD (bl h)).1=bB h:=by rw [tz (iZ hb).1]; rfl
 have hlen:=pN (iZ hb).1
 have Ab:(bB h).length≤10000:=by unfold bB; omega
 rw [wg]
 refine ⟨fun out x=>∃ t:Nat,x=t∧t≤(bB h).length∧out=((bB h).take t).map fun o=>(gi h.al o.aE).ax,fun _ x=>((bB h).length - x).toNat,⟨0,rfl,by omega,rfl⟩,?_⟩
 rintro _ _ ⟨t,rfl,ht,rfl⟩
 refine ⟨fun hi=>?_,fun hi=>?_⟩
 ·rw [decide_eq_true_eq] at hi
  rw [wrp (n:=(t:Int)+1) (by omega) (by omega)]
  have mt:=yr hb (i:=(t:Int)) (by omega) hi
  refine ⟨⟨by omega,hi⟩,mt,by simp; omega,⟨t+1,by push_cast; rfl,by omega,?_⟩,by dsimp only; omega⟩
  rw [eJ (by omega),List.map_append]; rfl
 ·rw [decide_eq_false_iff_not] at hi
  unfold VC24_J1 ofH
  rw [List.take_of_length_le (by omega),wg]
theorem v16 (os:List ae) (l:List az) (hp:jl os l):VC16 os l (fun r=>r=cU os l):=by
 obtain ⟨oD,mq⟩:=hp
 unfold VC16
 intro _ _
 refine ⟨⟨oD,mq⟩,?_⟩
 rintro _ rfl
 unfold cU cV cc
 generalize hh:(⟨os,l.map toL⟩:ak)=h
 have Cb:bQ l=bl h:=by rw [← hh,oH]
 have Od:h.al=l.map toL:=by rw [← hh]
 refine ⟨fun hb=>by rw [if_pos (by simpa using hb)],fun hb=>⟨mq,?_⟩⟩
 have hb:(aB h).2=0:=by simpa using hb
 rw [if_neg (by omega)]
 rintro _ rfl _ _ rfl _
 have wg:(eu (bQ l)).1=bB h:=by rw [Cb]; show (fD (bl h)).1=_; rw [tz (iZ hb).1]; rfl
 have hlen:=pN (iZ hb).1
 have Ab:(bB h).length≤10000:=by unfold bB; omega
 have gN:h.al.length=l.length:=by rw [Od,List.length_map]
 rw [wg]
 refine ⟨fun out x=>∃ t:Nat,x=t∧t≤(bB h).length∧out=((bB h).take t).map fun o=>(gi h.al o.aE).ax,fun _ x=>((bB h).length - x).toNat,⟨0,rfl,by omega,rfl⟩,?_⟩
 rintro _ _ ⟨t,rfl,ht,rfl⟩
 refine ⟨fun hi=>?_,fun hi=>?_⟩
 ·rw [decide_eq_true_eq] at hi
  rw [wrp (n:=(t:Int)+1) (by omega) (by omega)]
  have mt:=yr hb (i:=(t:Int)) (by omega) hi
  have hg:(gi h.al (gi (bB h) (t:Int)).aE).ax=(gi l (gi (bB h) (t:Int)).aE).ax:=by
   rw [Od,kW toL mt.1 (by omega)]; rfl
  refine ⟨⟨by omega,hi⟩,⟨mt.1,by omega⟩,by simp; omega,⟨t+1,by push_cast; rfl,by omega,?_⟩,by dsimp only; omega⟩
  rw [eJ (by omega),List.map_append,List.map_cons,List.map_nil,hg]
 ·rw [decide_eq_false_iff_not] at hi
  unfold VC16_J1 ofH
  rw [List.take_of_length_le (by omega),wg]
end Go.Proofs.YteahldlmkheleaaGreat
