/- ML,jx and GM objects,as the code yg them. -/
import Derived.Test.YteahldlmkheleaaGreatLV16
set_option linter.all false
namespace Go.Proofs.YteahldlmkheleaaGreat
open Go Go.Sv Go.Pu
theorem p6 {α:Type} (f:Int→Bool) (x:α):∀ (l:List α) (i:Int),fS f (l++[x]) i=fS f l i++(if f (i+l.length)=true then [x] else [])
 | [],i=>by simp [fS]
 | y :: l,i=>by
  rw [List.cons_append,fS,fS,p6 f x l (i+1)]
  have e:i+1+(l.length:Int)=i+((y :: l).length:Int):=by simp only [List.length_cons]; push_cast; omega
  rw [e]
  split <;> rfl
theorem rQ {α:Type} (f:Int→Bool):∀ (l:List α) (i:Int),(fS f l i).length≤l.length
 | [],_=>by simp [fS]
 | y :: l,i=>by
  rw [fS]
  have:=rQ f l (i+1)
  split <;> simp <;> omega
theorem k5 {α:Type} [Inhabited α] (f:Int→Bool) {l:List α} {k:Nat} (h:k < l.length):fS f (l.take (k+1)) 0=fS f (l.take k) 0++(if f (k:Int)=true then [gi l (k:Int)] else []):=by
 rw [eE h,p6]
 have e:(0:Int)+((l.take k).length:Int)=(k:Int):=by rw [List.length_take]; omega
 rw [e]
theorem mQ {α:Type} (f:Int→Bool) (l:List α) (k:Nat):(fS f (l.take k) 0).length≤k:=by
 have:=rQ f (l.take k) 0
 have:=List.length_take_le k l
 omega
theorem rR {α:Type} {f g:Int→Bool}:∀ (l:List α) (i:Int),(∀ j,i≤j→j < i+l.length→f j=g j)→fS f l i=fS g l i
 | [],_,_=>rfl
 | y :: l,i,h=>by
  rw [fS,fS,h i (by omega) (by simp only [List.length_cons]; push_cast; omega),rR l (i+1) (fun j h0 h1=>h j (by omega) (by simp only [List.length_cons]; push_cast; omega))]
theorem nA {α β:Type} [Inhabited α] (g:α→Bool) (e:α→β):∀ (Jx pre:List α),fS (fun i=>g (gi (pre++Jx) i)) (Jx.map e) pre.length=(Jx.filter g).map e
 | [],_=>rfl
 | x :: r,pre=>by
  rw [List.map_cons,fS]
  have hx:gi (pre++x :: r) (pre.length:Int)=x:=by rw [cd _ _ (by simp)]; simp
  have ih:=nA g e r (pre++[x])
  rw [List.append_assoc,List.singleton_append] at ih
  have hl:((pre++[x]).length:Int)=(pre.length:Int)+1:=by simp
  rw [hl] at ih
  rw [hx,ih,List.filter_cons]
  split <;> rfl
theorem ob {α β:Type} [Inhabited α] (g:α→Bool) (e:α→β) (l:List α):fS (fun i=>g (gi l i)) (l.map e) 0=(l.filter g).map e:=nA g e l []
theorem v48 (i:Int) (h:aj) (k:Int) (hp:xv i h k):VC48 i h k (fun r=>r=eG i h k):=by
 intro _ _
 exact ⟨hp,rfl⟩
theorem v46_48 (l:List au) (h:aj) (k:Int) (hp:xx l h k):VC46_48 l h k (fun r=>r=bM l h k):=by
 obtain ⟨qV,nH⟩:=hp
 unfold VC46_48
 intro _ _ _
 refine ⟨fun out x=>∃ t:Nat,x=t∧t≤l.length∧out=fS (fun i=>eG i h k) (l.take t) 0,fun _ x=>(l.length - x).toNat,⟨0,rfl,by omega,rfl⟩,?_⟩
 rintro _ _ ⟨t,rfl,ht,rfl⟩
 have hl:=mQ (fun i=>eG i h k) l t
 refine ⟨fun hi=>?_,fun hi=>?_⟩
 ·rw [decide_eq_true_eq] at hi
  have hw:=wrp (n:=(t:Int)+1) (by omega) (by omega)
  have hs:=k5 (fun i=>eG i h k) (l:=l) (k:=t) (by omega)
  refine ⟨⟨by omega,hi⟩,⟨by omega,show (t:Int) < h.ak.length by omega⟩,?_⟩
  rintro _ rfl
  refine ⟨fun hc=>⟨by simp; omega,?_⟩,fun hc=>?_⟩ <;> unfold VC46_48_J2 <;> rw [hw] <;> refine ⟨⟨t+1,by push_cast; rfl,by omega,?_⟩,by dsimp only; omega⟩
  ·rw [hs,if_pos hc]
  ·rw [hs,if_neg (by rw [show eG (t:Int) h k=false from hc]; decide),List.append_nil]
 ·rw [decide_eq_false_iff_not] at hi
  unfold VC46_48_J1 bM
  rw [List.take_of_length_le (by omega)]
theorem CL (h:aj) (k:Int):bM (bk h) h k=dG h.ak k :=
 ob (fun x:aR=>x.aw == k) (fun x=>x.aK) h.ak
theorem gk (h:aj):(bk h).length=h.ak.length:=by unfold bk; rw [List.length_map]
theorem v17 (h:aj) (k:Int) (hp:uq h k):VC17 h k (fun r=>r=dw h k):=by
 obtain ⟨qV,nH,z5⟩:=hp
 unfold VC17
 intro _ _
 refine ⟨⟨qV,nH,z5⟩,?_⟩
 rintro _ rfl
 refine ⟨fun hb=>?_,fun hb=>⟨nH,?_⟩⟩
 ·unfold dw
  rw [if_pos (by unfold oc; simp at hb; omega)]
 ·rintro _ rfl _
  refine ⟨⟨by rw [gk]; omega,by rw [gk]; exact nH⟩,?_⟩
  rintro _ rfl _
  have hb:(aA h).2=0∧0≤k∧k < h.ae.length:=by simp at hb; omega
  refine ⟨hb.2,fun _=>⟨z5 _ (ep hb.2.1 hb.2.2),?_⟩⟩
  rintro _ rfl _
  unfold dw
  rw [if_neg (by unfold oc; omega),CL]
  rfl
theorem kb {l:List aR} (k:Int) {t:Nat} (h:t < l.length):dG (l.take (t+1)) k=dG (l.take t) k++(if (gi l (t:Int)).aw == k then [(gi l (t:Int)).aK] else []):=by
 unfold dG
 rw [eE h,List.filter_append,List.map_append,List.filter_cons,List.filter_nil]
 split <;> rfl
theorem wu (l:List aR) (k:Int) (t:Nat):(dG (l.take t) k).length≤t:=by
 unfold dG
 rw [List.length_map]
 have:=List.length_filter_le (fun x:aR=>x.aw == k) (l.take t)
 have:=List.length_take_le t l
 omega
theorem hY {h:aj} (hc:(aA h).2=0):(bw (bk h)).2=0∧¬ pb h.ae∧(hGo h.ae h.ak 0 []).2=0:=by
 unfold aA at hc
 split at hc
 ·cases hc
 ·rename_i hb
  split at hc
  ·rename_i hh; exact absurd hc hh
  ·rename_i hh
   refine ⟨?_,hb,hc⟩
   exact Decidable.of_not_not hh
theorem l6 {l:List au} (h:(bw l).2=0):mD l (opsOf l):=by
 have:=wx h l.length (by omega)
 rwa [List.take_length] at this
theorem pq {l:List au} (h:(bw l).2=0):(opsOf l).length≤l.length∧l.length≤10000:=by
 refine ⟨?_,(qA h).1⟩
 have h1:=oy l
 have h2:kx l≤l.length:=by
  unfold kx
  have:=List.countP_le_length (p:=fun x:au=>x.bh == 1) (l:=l)
  omega
 omega
theorem sS {l:List au} (h:(bw l).2=0):gw l=(opsOf l,0):=by unfold gw; rw [if_neg (by omega)]
theorem sR {h:aj} (hc:(aA h).2=0) {i:Int} (h0:0≤i) (h1:i < (bo h).length):0≤(gi (bo h) i).aD∧(gi (bo h) i).aD < h.ak.length:=by
 obtain ⟨n,rfl⟩:=Int.eq_ofNat_of_zero_le h0
 have H:=(l6 (hY hc).1).one n (by unfold bo at h1; omega)
 have hl:=gk h
 exact ⟨(en H.1).1,by have:=H.2.1; unfold bo; omega⟩
theorem v24 (h:aj) (hp:fV h):VC24 h (fun r=>r=cJ h):=by
 obtain ⟨qV,nH,z5⟩:=hp
 unfold VC24
 intro _ _
 refine ⟨⟨qV,nH,z5⟩,?_⟩
 rintro _ rfl
 unfold cJ
 refine ⟨fun hb=>by rw [if_pos (by simpa using hb)],fun hb=>⟨nH,?_⟩⟩
 have hb:(aA h).2=0:=by simpa using hb
 rw [if_neg (by omega)]
 rintro _ rfl _ _ rfl _
 have vH:(gw (bk h)).1=bo h:=by rw [sS (hY hb).1]; rfl
 have hlen:=pq (hY hb).1
 have DS:(bo h).length≤10000:=by unfold bo; omega
 rw [vH]
 refine ⟨fun out x=>∃ t:Nat,x=t∧t≤(bo h).length∧out=((bo h).take t).map fun o=>(gi h.ak o.aD).aw,fun _ x=>((bo h).length - x).toNat,⟨0,rfl,by omega,rfl⟩,?_⟩
 rintro _ _ ⟨t,rfl,ht,rfl⟩
 refine ⟨fun hi=>?_,fun hi=>?_⟩
 ·rw [decide_eq_true_eq] at hi
  rw [wrp (n:=(t:Int)+1) (by omega) (by omega)]
  have jS:=sR hb (i:=(t:Int)) (by omega) hi
  refine ⟨⟨by omega,hi⟩,jS,by simp; omega,⟨t+1,by push_cast; rfl,by omega,?_⟩,by dsimp only; omega⟩
  rw [eE (by omega),List.map_append]; rfl
 ·rw [decide_eq_false_iff_not] at hi
  unfold VC24_J1 ofH
  rw [List.take_of_length_le (by omega),vH]
theorem v16 (os:List al) (l:List aH) (hp:ko os l):VC16 os l (fun r=>r=cX os l):=by
 obtain ⟨qV,nH⟩:=hp
 unfold VC16
 intro _ _
 refine ⟨⟨qV,nH⟩,?_⟩
 rintro _ rfl
 unfold cX cJ du
 generalize hh:(⟨os,l.map toL⟩:aj)=h
 have A6:cC l=bk h:=by rw [← hh,rE]
 have KU:h.ak=l.map toL:=by rw [← hh]
 refine ⟨fun hb=>by rw [if_pos (by simpa using hb)],fun hb=>⟨nH,?_⟩⟩
 have hb:(aA h).2=0:=by simpa using hb
 rw [if_neg (by omega)]
 rintro _ rfl _ _ rfl _
 have vH:(gh (cC l)).1=bo h:=by rw [A6]; show (gw (bk h)).1=_; rw [sS (hY hb).1]; rfl
 have hlen:=pq (hY hb).1
 have DS:(bo h).length≤10000:=by unfold bo; omega
 have gL:h.ak.length=l.length:=by rw [KU,List.length_map]
 rw [vH]
 refine ⟨fun out x=>∃ t:Nat,x=t∧t≤(bo h).length∧out=((bo h).take t).map fun o=>(gi h.ak o.aD).aw,fun _ x=>((bo h).length - x).toNat,⟨0,rfl,by omega,rfl⟩,?_⟩
 rintro _ _ ⟨t,rfl,ht,rfl⟩
 refine ⟨fun hi=>?_,fun hi=>?_⟩
 ·rw [decide_eq_true_eq] at hi
  rw [wrp (n:=(t:Int)+1) (by omega) (by omega)]
  have jS:=sR hb (i:=(t:Int)) (by omega) hi
  have hg:(gi h.ak (gi (bo h) (t:Int)).aD).aw=(gi l (gi (bo h) (t:Int)).aD).aw:=by
   rw [KU,iZ toL jS.1 (by omega)]; rfl
  refine ⟨⟨by omega,hi⟩,⟨jS.1,by omega⟩,by simp; omega,⟨t+1,by push_cast; rfl,by omega,?_⟩,by dsimp only; omega⟩
  rw [eE (by omega),List.map_append,List.map_cons,List.map_nil,hg]
 ·rw [decide_eq_false_iff_not] at hi
  unfold VC16_J1 ofH
  rw [List.take_of_length_le (by omega),vH]
end Go.Proofs.YteahldlmkheleaaGreat
