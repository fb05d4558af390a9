/- Parts, operations and their objects, as the code finds them. -/
import Derived.Test.YteahldlmkheleaaGreatLV16
set_option linter.all false
namespace Go.Proofs.YteahldlmkheleaaGreat
open Go Go.Sv Go.Pu
theorem qT {α:Type} (f:Int→Bool) (x:α):∀ (l:List α) (i:Int),gn f (l++[x]) i=gn f l i++(if f (i+l.length)=true then [x] else [])
 | [],i=>by simp [gn]
 | y :: l,i=>by
  rw [List.cons_append,gn,gn,qT f x l (i+1)]
  have e:i+1+(l.length:Int)=i+((y :: l).length:Int):=by simp only [List.length_cons]; push_cast; omega
  rw [e]
  split <;> rfl
theorem sU {α:Type} (f:Int→Bool):∀ (l:List α) (i:Int),(gn f l i).length≤l.length
 | [],_=>by simp [gn]
 | y :: l,i=>by
  rw [gn]
  have:=sU f l (i+1)
  split <;> simp <;> omega
theorem lP {α:Type} [Inhabited α] (f:Int→Bool) {l:List α} {k:Nat} (h:k < l.length):gn f (l.take (k+1)) 0=gn f (l.take k) 0++(if f (k:Int)=true then [gi l (k:Int)] else []):=by
 rw [eV h,qT]
 have e:(0:Int)+((l.take k).length:Int)=(k:Int):=by rw [List.length_take]; omega
 rw [e]
theorem nJ {α:Type} (f:Int→Bool) (l:List α) (k:Nat):(gn f (l.take k) 0).length≤k:=by
 have:=sU f (l.take k) 0
 have:=List.length_take_le k l
 omega
theorem sV {α:Type} {f g:Int→Bool}:∀ (l:List α) (i:Int),(∀ j,i≤j→j < i+l.length→f j=g j)→gn f l i=gn g l i
 | [],_,_=>rfl
 | y :: l,i,h=>by
  rw [gn,gn,h i (by omega) (by simp only [List.length_cons]; push_cast; omega),sV l (i+1) (fun j h0 h1=>h j (by omega) (by simp only [List.length_cons]; push_cast; omega))]
theorem oq {α β:Type} [Inhabited α] (g:α→Bool) (e:α→β):∀ (KR pre:List α),gn (fun i=>g (gi (pre++KR) i)) (KR.map e) pre.length=(KR.filter g).map e
 | [],_=>rfl
 | x :: r,pre=>by
  rw [List.map_cons,gn]
  have hx:gi (pre++x :: r) (pre.length:Int)=x:=by rw [cq _ _ (by simp)]; simp
  have ih:=oq g e r (pre++[x])
  rw [List.append_assoc,List.singleton_append] at ih
  have hl:((pre++[x]).length:Int)=(pre.length:Int)+1:=by simp
  rw [hl] at ih
  rw [hx,ih,List.filter_cons]
  split <;> rfl
theorem o6 {α β:Type} [Inhabited α] (g:α→Bool) (e:α→β) (l:List α):gn (fun i=>g (gi l i)) (l.map e) 0=(l.filter g).map e:=oq g e l []
theorem v48 (i:Int) (h:ak) (k:Int) (hp:yP i h k):VC48 i h k (fun r=>r=eX i h k):=by
 intro _ _
 exact ⟨hp,rfl⟩
theorem v46_48 (l:List aw) (h:ak) (k:Int) (hp:yR l h k):VC46_48 l h k (fun r=>r=bS l h k):=by
 obtain ⟨rX,oA⟩:=hp
 unfold VC46_48
 intro _ _ _
 refine ⟨fun out x=>∃ t:Nat,x=t∧t≤l.length∧out=gn (fun i=>eX i h k) (l.take t) 0,fun _ x=>(l.length - x).toNat,⟨0,rfl,by omega,rfl⟩,?_⟩
 rintro _ _ ⟨t,rfl,ht,rfl⟩
 have hl:=nJ (fun i=>eX i h k) l t
 refine ⟨fun hi=>?_,fun hi=>?_⟩
 ·rw [decide_eq_true_eq] at hi
  have hw:=wrp (n:=(t:Int)+1) (by omega) (by omega)
  have hs:=lP (fun i=>eX i h k) (l:=l) (k:=t) (by omega)
  refine ⟨⟨by omega,hi⟩,⟨by omega,show (t:Int) < h.al.length by omega⟩,?_⟩
  rintro _ rfl
  refine ⟨fun hc=>⟨by simp; omega,?_⟩,fun hc=>?_⟩ <;> unfold VC46_48_J2 <;> rw [hw] <;> refine ⟨⟨t+1,by push_cast; rfl,by omega,?_⟩,by dsimp only; omega⟩
  ·rw [hs,if_pos hc]
  ·rw [hs,if_neg (by rw [show eX (t:Int) h k=false from hc]; decide),List.append_nil]
 ·rw [decide_eq_false_iff_not] at hi
  unfold VC46_48_J1 bS
  rw [List.take_of_length_le (by omega)]
theorem D3 (h:ak) (k:Int):bS (bo h) h k=dR h.al k :=
 o6 (fun x:aV=>x.az == k) (fun x=>x.aN) h.al
theorem gI (h:ak):(bo h).length=h.al.length:=by unfold bo; rw [List.length_map]
theorem v17 (h:ak) (k:Int) (hp:vv h k):VC17 h k (fun r=>r=dG h k):=by
 obtain ⟨rX,oA,Bi⟩:=hp
 unfold VC17
 intro _ _
 refine ⟨⟨rX,oA,Bi⟩,?_⟩
 rintro _ rfl
 refine ⟨fun hb=>?_,fun hb=>⟨oA,?_⟩⟩
 ·unfold dG
  rw [if_pos (by unfold o7; simp at hb; omega)]
 ·rintro _ rfl _
  refine ⟨⟨by rw [gI]; omega,by rw [gI]; exact oA⟩,?_⟩
  rintro _ rfl _
  have hb:(aD h).2=0∧0≤k∧k < h.ae.length:=by simp at hb; omega
  refine ⟨hb.2,fun _=>⟨Bi _ (eJ hb.2.1 hb.2.2),?_⟩⟩
  rintro _ rfl _
  unfold dG
  rw [if_neg (by unfold o7; omega),D3]
  rfl
theorem kT {l:List aV} (k:Int) {t:Nat} (h:t < l.length):dR (l.take (t+1)) k=dR (l.take t) k++(if (gi l (t:Int)).az == k then [(gi l (t:Int)).aN] else []):=by
 unfold dR
 rw [eV h,List.filter_append,List.map_append,List.filter_cons,List.filter_nil]
 split <;> rfl
theorem xL (l:List aV) (k:Int) (t:Nat):(dR (l.take t) k).length≤t:=by
 unfold dR
 rw [List.length_map]
 have:=List.length_filter_le (fun x:aV=>x.az == k) (l.take t)
 have:=List.length_take_le t l
 omega
theorem iG {h:ak} (hc:(aD h).2=0):(bE (bo h)).2=0∧¬ p6 h.ae∧(hGo h.ae h.al 0 []).2=0:=by
 unfold aD at hc
 split at hc
 ·cases hc
 ·rename_i hb
  split at hc
  ·rename_i hh; exact absurd hc hh
  ·rename_i hh
   refine ⟨?_,hb,hc⟩
   exact Decidable.of_not_not hh
theorem mP {l:List aw} (h:(bE l).2=0):nv l (opsOf l):=by
 have:=xN h l.length (by omega)
 rwa [List.take_length] at this
theorem qf {l:List aw} (h:(bE l).2=0):(opsOf l).length≤l.length∧l.length≤10000:=by
 refine ⟨?_,(rA h).1⟩
 have h1:=pt l
 have h2:lf l≤l.length:=by
  unfold lf
  have:=List.countP_le_length (p:=fun x:aw=>x.bm == 1) (l:=l)
  omega
 omega
theorem tY {l:List aw} (h:(bE l).2=0):gT l=(opsOf l,0):=by unfold gT; rw [if_neg (by omega)]
theorem tX {h:ak} (hc:(aD h).2=0) {i:Int} (h0:0≤i) (h1:i < (bw h).length):0≤(gi (bw h) i).aG∧(gi (bw h) i).aG < h.al.length:=by
 obtain ⟨n,rfl⟩:=Int.eq_ofNat_of_zero_le h0
 have H:=(mP (iG hc).1).one n (by unfold bw at h1; omega)
 have hl:=gI h
 exact ⟨(eI H.1).1,by have:=H.2.1; unfold bw; omega⟩
theorem v24 (h:ak) (hp:gr h):VC24 h (fun r=>r=cY h):=by
 obtain ⟨rX,oA,Bi⟩:=hp
 unfold VC24
 intro _ _
 refine ⟨⟨rX,oA,Bi⟩,?_⟩
 rintro _ rfl
 unfold cY
 refine ⟨fun hb=>by rw [if_pos (by simpa using hb)],fun hb=>⟨oA,?_⟩⟩
 have hb:(aD h).2=0:=by simpa using hb
 rw [if_neg (by omega)]
 rintro _ rfl _ _ rfl _
 have w6:(gT (bo h)).1=bw h:=by rw [tY (iG hb).1]; rfl
 have hlen:=qf (iG hb).1
 have E9:(bw h).length≤10000:=by unfold bw; omega
 rw [w6]
 refine ⟨fun out x=>∃ t:Nat,x=t∧t≤(bw h).length∧out=((bw h).take t).map fun o=>(gi h.al o.aG).az,fun _ x=>((bw h).length - x).toNat,⟨0,rfl,by omega,rfl⟩,?_⟩
 rintro _ _ ⟨t,rfl,ht,rfl⟩
 refine ⟨fun hi=>?_,fun hi=>?_⟩
 ·rw [decide_eq_true_eq] at hi
  rw [wrp (n:=(t:Int)+1) (by omega) (by omega)]
  have kF:=tX hb (i:=(t:Int)) (by omega) hi
  refine ⟨⟨by omega,hi⟩,kF,by simp; omega,⟨t+1,by push_cast; rfl,by omega,?_⟩,by dsimp only; omega⟩
  rw [eV (by omega),List.map_append]; rfl
 ·rw [decide_eq_false_iff_not] at hi
  unfold VC24_J1 ofH
  rw [List.take_of_length_le (by omega),w6]
theorem v16 (os:List ao) (l:List aK) (hp:k5 os l):VC16 os l (fun r=>r=dc os l):=by
 obtain ⟨rX,oA⟩:=hp
 unfold VC16
 intro _ _
 refine ⟨⟨rX,oA⟩,?_⟩
 rintro _ rfl
 unfold dc cY dE
 generalize hh:(⟨os,l.map toL⟩:ak)=h
 have Cl:cS l=bo h:=by rw [← hh,sI]
 have Mh:h.al=l.map toL:=by rw [← hh]
 refine ⟨fun hb=>by rw [if_pos (by simpa using hb)],fun hb=>⟨oA,?_⟩⟩
 have hb:(aD h).2=0:=by simpa using hb
 rw [if_neg (by omega)]
 rintro _ rfl _ _ rfl _
 have w6:(gD (cS l)).1=bw h:=by rw [Cl]; show (gT (bo h)).1=_; rw [tY (iG hb).1]; rfl
 have hlen:=qf (iG hb).1
 have E9:(bw h).length≤10000:=by unfold bw; omega
 have hY:h.al.length=l.length:=by rw [Mh,List.length_map]
 rw [w6]
 refine ⟨fun out x=>∃ t:Nat,x=t∧t≤(bw h).length∧out=((bw h).take t).map fun o=>(gi h.al o.aG).az,fun _ x=>((bw h).length - x).toNat,⟨0,rfl,by omega,rfl⟩,?_⟩
 rintro _ _ ⟨t,rfl,ht,rfl⟩
 refine ⟨fun hi=>?_,fun hi=>?_⟩
 ·rw [decide_eq_true_eq] at hi
  rw [wrp (n:=(t:Int)+1) (by omega) (by omega)]
  have kF:=tX hb (i:=(t:Int)) (by omega) hi
  have hg:(gi h.al (gi (bw h) (t:Int)).aG).az=(gi l (gi (bw h) (t:Int)).aG).az:=by
   rw [Mh,jA toL kF.1 (by omega)]; rfl
  refine ⟨⟨by omega,hi⟩,⟨kF.1,by omega⟩,by simp; omega,⟨t+1,by push_cast; rfl,by omega,?_⟩,by dsimp only; omega⟩
  rw [eV (by omega),List.map_append,List.map_cons,List.map_nil,hg]
 ·rw [decide_eq_false_iff_not] at hi
  unfold VC16_J1 ofH
  rw [List.take_of_length_le (by omega),w6]
end Go.Proofs.YteahldlmkheleaaGreat
