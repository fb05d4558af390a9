/- Parts, operations and their objects, as the code finds them. -/
import Derived.Test.YteahldlmkheleaaGreatLV16
set_option linter.all false
namespace Go.Proofs.YteahldlmkheleaaGreat
open Go Go.Sv Go.Pu
theorem qU {α:Type} (f:Int→Bool) (x:α):∀ (l:List α) (i:Int),gV f (l++[x]) i=gV f l i++(if f (i+l.length)=true then [x] else [])
 | [],i=>by simp [gV]
 | y :: l,i=>by
  rw [List.cons_append,gV,gV,qU f x l (i+1)]
  have e:i+1+(l.length:Int)=i+((y :: l).length:Int):=by simp only [List.length_cons]; push_cast; omega
  rw [e]
  split <;> rfl
theorem sJ {α:Type} (f:Int→Bool):∀ (l:List α) (i:Int),(gV f l i).length≤l.length
 | [],_=>by simp [gV]
 | y :: l,i=>by
  rw [gV]
  have:=sJ f l (i+1)
  split <;> simp <;> omega
theorem lK {α:Type} [Inhabited α] (f:Int→Bool) {l:List α} {k:Nat} (h:k < l.length):gV f (l.take (k+1)) 0=gV f (l.take k) 0++(if f (k:Int)=true then [gi l (k:Int)] else []):=by
 rw [fy h,qU]
 have e:(0:Int)+((l.take k).length:Int)=(k:Int):=by rw [List.length_take]; omega
 rw [e]
theorem nG {α:Type} (f:Int→Bool) (l:List α) (k:Nat):(gV f (l.take k) 0).length≤k:=by
 have:=sJ f (l.take k) 0
 have:=List.length_take_le k l
 omega
theorem oa {α β:Type} [Inhabited α] (g:α→Bool) (e:α→β):∀ (Li pre:List α),gV (fun i=>g (gi (pre++Li) i)) (Li.map e) pre.length=(Li.filter g).map e
 | [],_=>rfl
 | x :: r,pre=>by
  rw [List.map_cons,gV]
  have hx:gi (pre++x :: r) (pre.length:Int)=x:=by rw [bZ _ _ (by simp)]; simp
  have ih:=oa g e r (pre++[x])
  rw [List.append_assoc,List.singleton_append] at ih
  have hl:((pre++[x]).length:Int)=(pre.length:Int)+1:=by simp
  rw [hl] at ih
  rw [hx,ih,List.filter_cons]
  split <;> rfl
theorem sK {α β:Type} [Inhabited α] (g:α→Bool) (e:α→β) (l:List α):gV (fun i=>g (gi l i)) (l.map e) 0=(l.filter g).map e:=oa g e l []
theorem v48 (i:Int) (h:al) (k:Int) (hp:yp i h k):VC48 i h k (fun r=>r=eX i h k):=by
 intro _ _
 exact ⟨hp,rfl⟩
theorem v46_48 (l:List aw) (h:al) (k:Int) (hp:yu l h k):VC46_48 l h k (fun r=>r=bS l h k):=by
 obtain ⟨pZ,np⟩:=hp
 unfold VC46_48
 intro _ _ _
 refine ⟨fun out x=>∃ t:Nat,x=t∧t≤l.length∧out=gV (fun i=>eX i h k) (l.take t) 0,fun _ x=>(l.length - x).toNat,⟨0,rfl,by omega,rfl⟩,?_⟩
 rintro _ _ ⟨t,rfl,ht,rfl⟩
 have hl:=nG (fun i=>eX i h k) l t
 refine ⟨fun hi=>?_,fun hi=>?_⟩
 ·rw [decide_eq_true_eq] at hi
  have hw:=wrp (n:=(t:Int)+1) (by omega) (by omega)
  have hs:=lK (fun i=>eX i h k) (l:=l) (k:=t) (by omega)
  refine ⟨⟨by omega,hi⟩,⟨by omega,show (t:Int) < h.aq.length by omega⟩,?_⟩
  rintro _ rfl
  refine ⟨fun hc=>⟨by simp; omega,?_⟩,fun hc=>?_⟩ <;> unfold VC46_48_J2 <;> rw [hw] <;> refine ⟨⟨t+1,by push_cast; rfl,by omega,?_⟩,by dsimp only; omega⟩
  ·rw [hs,if_pos hc]
  ·rw [hs,if_neg (by rw [show eX (t:Int) h k=false from hc]; decide),List.append_nil]
 ·rw [decide_eq_false_iff_not] at hi
  unfold VC46_48_J1 bS
  rw [List.take_of_length_le (by omega)]
theorem D8 (h:al) (k:Int):bS (bT h) h k=BK h.aq k :=
 sK (fun x:bd=>x.aA == k) (fun x=>x.aW) h.aq
theorem oW (h:al):(bT h).length=h.aq.length:=by unfold bT; rw [List.length_map]
theorem v17 (h:al) (k:Int) (hp:yA h k):VC17 h k (fun r=>r=eS h k):=by
 obtain ⟨pZ,np,za⟩:=hp
 unfold VC17
 intro _ _
 refine ⟨⟨pZ,np,za⟩,?_⟩
 rintro _ rfl
 refine ⟨fun hb=>?_,fun hb=>⟨np,?_⟩⟩
 ·unfold eS
  rw [if_pos (by unfold q8; simp at hb; omega)]
 ·rintro _ rfl _
  refine ⟨⟨by rw [oW]; omega,by rw [oW]; exact np⟩,?_⟩
  rintro _ rfl _
  have hb:(aE h).2=0∧0≤k∧k < h.ae.length:=by simp at hb; omega
  refine ⟨hb.2,fun _=>⟨za _ (dB hb.2.1 hb.2.2),?_⟩⟩
  rintro _ rfl _
  unfold eS
  rw [if_neg (by unfold q8; omega),D8]
  rfl
theorem jJ {h:al} (hc:(aE h).2=0):(bV (bT h)).2=0∧¬ p1 h.ae∧(hGo h.ae h.aq 0 []).2=0:=by
 unfold aE at hc
 split at hc
 ·cases hc
 ·rename_i hb
  split at hc
  ·rename_i hh; exact absurd hc hh
  ·rename_i hh
   refine ⟨?_,hb,hc⟩
   exact Decidable.of_not_not hh
theorem qd {l:List aw} (h:(bV l).2=0):oM l (opsOf l):=by
 have:=xp h l.length (by omega)
 rwa [List.take_length] at this
theorem tP {l:List aw} (h:(bV l).2=0):(opsOf l).length≤l.length∧l.length≤10000:=by
 refine ⟨?_,(uj h).1⟩
 have h1:=pc l
 have h2:lf l≤l.length:=by
  unfold lf
  have:=List.countP_le_length (p:=fun x:aw=>x.bo == 1) (l:=l)
  omega
 omega
theorem yL {l:List aw} (h:(bV l).2=0):gL l=(opsOf l,0):=by unfold gL; rw [if_neg (by omega)]
theorem tQ {h:al} (hc:(aE h).2=0) {i:Int} (h0:0≤i) (h1:i < (bz h).length):0≤(gi (bz h) i).aI∧(gi (bz h) i).aI < h.aq.length:=by
 obtain ⟨n,rfl⟩:=Int.eq_ofNat_of_zero_le h0
 have H:=(qd (jJ hc).1).one n (by unfold bz at h1; omega)
 have hl:=oW h
 exact ⟨(fK H.1).1,by have:=H.2.1; unfold bz; omega⟩
theorem v24 (h:al) (hp:gl h):VC24 h (fun r=>r=cN h):=by
 obtain ⟨pZ,np,za⟩:=hp
 unfold VC24
 intro _ _
 refine ⟨⟨pZ,np,za⟩,?_⟩
 rintro _ rfl
 unfold cN
 refine ⟨fun hb=>by rw [if_pos (by simpa using hb)],fun hb=>⟨np,?_⟩⟩
 have hb:(aE h).2=0:=by simpa using hb
 rw [if_neg (by omega)]
 rintro _ rfl _ _ rfl _
 have wI:(gL (bT h)).1=bz h:=by rw [yL (jJ hb).1]; rfl
 have hlen:=tP (jJ hb).1
 have DC:(bz h).length≤10000:=by unfold bz; omega
 rw [wI]
 refine ⟨fun out x=>∃ t:Nat,x=t∧t≤(bz h).length∧out=((bz h).take t).map fun o=>(gi h.aq o.aI).aA,fun _ x=>((bz h).length - x).toNat,⟨0,rfl,by omega,rfl⟩,?_⟩
 rintro _ _ ⟨t,rfl,ht,rfl⟩
 refine ⟨fun hi=>?_,fun hi=>?_⟩
 ·rw [decide_eq_true_eq] at hi
  rw [wrp (n:=(t:Int)+1) (by omega) (by omega)]
  have hin:=tQ hb (i:=(t:Int)) (by omega) hi
  refine ⟨⟨by omega,hi⟩,hin,by simp; omega,⟨t+1,by push_cast; rfl,by omega,?_⟩,by dsimp only; omega⟩
  rw [fy (by omega),List.map_append]; rfl
 ·rw [decide_eq_false_iff_not] at hi
  unfold VC24_J1 ofH
  rw [List.take_of_length_le (by omega),wI]
theorem v16 (os:List aj) (l:List aG) (hp:k5 os l):VC16 os l (fun r=>r=bf os l):=by
 obtain ⟨pZ,np⟩:=hp
 unfold VC16
 intro _ _
 refine ⟨⟨pZ,np⟩,?_⟩
 rintro _ rfl
 unfold bf cN dJ
 generalize hh:(⟨os,l.map toL⟩:al)=h
 have Ci:cv l=bT h:=by rw [← hh,mK]
 have OI:h.aq=l.map toL:=by rw [← hh]
 refine ⟨fun hb=>by rw [if_pos (by simpa using hb)],fun hb=>⟨np,?_⟩⟩
 have hb:(aE h).2=0:=by simpa using hb
 rw [if_neg (by omega)]
 rintro _ rfl _ _ rfl _
 have wI:(iS (cv l)).1=bz h:=by rw [Ci]; show (gL (bT h)).1=_; rw [yL (jJ hb).1]; rfl
 have hlen:=tP (jJ hb).1
 have DC:(bz h).length≤10000:=by unfold bz; omega
 have gJ:h.aq.length=l.length:=by rw [OI,List.length_map]
 rw [wI]
 refine ⟨fun out x=>∃ t:Nat,x=t∧t≤(bz h).length∧out=((bz h).take t).map fun o=>(gi h.aq o.aI).aA,fun _ x=>((bz h).length - x).toNat,⟨0,rfl,by omega,rfl⟩,?_⟩
 rintro _ _ ⟨t,rfl,ht,rfl⟩
 refine ⟨fun hi=>?_,fun hi=>?_⟩
 ·rw [decide_eq_true_eq] at hi
  rw [wrp (n:=(t:Int)+1) (by omega) (by omega)]
  have hin:=tQ hb (i:=(t:Int)) (by omega) hi
  have hg:(gi h.aq (gi (bz h) (t:Int)).aI).aA=(gi l (gi (bz h) (t:Int)).aI).aA:=by
   rw [OI,ld toL hin.1 (by omega)]; rfl
  refine ⟨⟨by omega,hi⟩,⟨hin.1,by omega⟩,by simp; omega,⟨t+1,by push_cast; rfl,by omega,?_⟩,by dsimp only; omega⟩
  rw [fy (by omega),List.map_append,List.map_cons,List.map_nil,hg]
 ·rw [decide_eq_false_iff_not] at hi
  unfold VC16_J1 ofH
  rw [List.take_of_length_le (by omega),wI]
end Go.Proofs.YteahldlmkheleaaGreat
