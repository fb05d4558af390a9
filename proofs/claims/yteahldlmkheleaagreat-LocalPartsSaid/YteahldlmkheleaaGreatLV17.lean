/- Nt,jz and G4 objects,as the code xX them. -/
import Derived.Test.YteahldlmkheleaaGreatLV16
set_option linter.all false
namespace Go.Proofs.YteahldlmkheleaaGreat
open Go Go.Sv Go.Pu
theorem p6 {α:Type} (f:Int→Bool) (x:α):∀ (l:List α) (i:Int),gx f (l++[x]) i=gx f l i++(if f (i+l.length)=true then [x] else [])
 | [],i=>by simp [gx]
 | y :: l,i=>by
  rw [List.cons_append,gx,gx,p6 f x l (i+1)]
  have e:i+1+(l.length:Int)=i+((y :: l).length:Int):=by simp only [List.length_cons]; push_cast; omega
  rw [e]
  split <;> rfl
theorem rF {α:Type} (f:Int→Bool):∀ (l:List α) (i:Int),(gx f l i).length≤l.length
 | [],_=>by simp [gx]
 | y :: l,i=>by
  rw [gx]
  have:=rF f l (i+1)
  split <;> simp <;> omega
theorem kW {α:Type} [Inhabited α] (f:Int→Bool) {l:List α} {k:Nat} (h:k < l.length):gx f (l.take (k+1)) 0=gx f (l.take k) 0++(if f (k:Int)=true then [gi l (k:Int)] else []):=by
 rw [e9 h,p6]
 have e:(0:Int)+((l.take k).length:Int)=(k:Int):=by rw [List.length_take]; omega
 rw [e]
theorem mL {α:Type} (f:Int→Bool) (l:List α) (k:Nat):(gx f (l.take k) 0).length≤k:=by
 have:=rF f (l.take k) 0
 have:=List.length_take_le k l
 omega
theorem nm {α β:Type} [Inhabited α] (g:α→Bool) (e:α→β):∀ (JY pre:List α),gx (fun i=>g (gi (pre++JY) i)) (JY.map e) pre.length=(JY.filter g).map e
 | [],_=>rfl
 | x :: r,pre=>by
  rw [List.map_cons,gx]
  have hx:gi (pre++x :: r) (pre.length:Int)=x:=by rw [bS _ _ (by simp)]; simp
  have ih:=nm g e r (pre++[x])
  rw [List.append_assoc,List.singleton_append] at ih
  have hl:((pre++[x]).length:Int)=(pre.length:Int)+1:=by simp
  rw [hl] at ih
  rw [hx,ih,List.filter_cons]
  split <;> rfl
theorem rG {α β:Type} [Inhabited α] (g:α→Bool) (e:α→β) (l:List α):gx (fun i=>g (gi l i)) (l.map e) 0=(l.filter g).map e:=nm g e l []
theorem v48 (i:Int) (h:ak) (k:Int) (hp:w7 i h k):VC48 i h k (fun r=>r=eG i h k):=by
 intro _ _
 exact ⟨hp,rfl⟩
theorem v46_48 (l:List av) (h:ak) (k:Int) (hp:xa l h k):VC46_48 l h k (fun r=>r=bM l h k):=by
 obtain ⟨o4,mt⟩:=hp
 unfold VC46_48
 intro _ _ _
 refine ⟨fun out x=>∃ t:Nat,x=t∧t≤l.length∧out=gx (fun i=>eG i h k) (l.take t) 0,fun _ x=>(l.length - x).toNat,⟨0,rfl,by omega,rfl⟩,?_⟩
 rintro _ _ ⟨t,rfl,ht,rfl⟩
 have hl:=mL (fun i=>eG i h k) l t
 refine ⟨fun hi=>?_,fun hi=>?_⟩
 ·rw [decide_eq_true_eq] at hi
  have hw:=wrp (n:=(t:Int)+1) (by omega) (by omega)
  have hs:=kW (fun i=>eG i h k) (l:=l) (k:=t) (by omega)
  refine ⟨⟨by omega,hi⟩,⟨by omega,show (t:Int) < h.ao.length by omega⟩,?_⟩
  rintro _ rfl
  refine ⟨fun hc=>⟨by simp; omega,?_⟩,fun hc=>?_⟩ <;> unfold VC46_48_J2 <;> rw [hw] <;> refine ⟨⟨t+1,by push_cast; rfl,by omega,?_⟩,by dsimp only; omega⟩
  ·rw [hs,if_pos hc]
  ·rw [hs,if_neg (by rw [show eG (t:Int) h k=false from hc]; decide),List.append_nil]
 ·rw [decide_eq_false_iff_not] at hi
  unfold VC46_48_J1 bM
  rw [List.take_of_length_le (by omega)]
theorem CQ (h:ak) (k:Int):bM (bN h) h k=Ax h.ao k :=
 rG (fun x:ba=>x.ax == k) (fun x=>x.aS) h.ao
theorem nZ (h:ak):(bN h).length=h.ao.length:=by unfold bN; rw [List.length_map]
theorem v17 (h:ak) (k:Int) (hp:xh h k):VC17 h k (fun r=>r=eB h k):=by
 obtain ⟨o4,mt,xI⟩:=hp
 unfold VC17
 intro _ _
 refine ⟨⟨o4,mt,xI⟩,?_⟩
 rintro _ rfl
 refine ⟨fun hb=>?_,fun hb=>⟨mt,?_⟩⟩
 ·unfold eB
  rw [if_pos (by unfold qf; simp at hb; omega)]
 ·rintro _ rfl _
  refine ⟨⟨by rw [nZ]; omega,by rw [nZ]; exact mt⟩,?_⟩
  rintro _ rfl _
  have hb:(aB h).2=0∧0≤k∧k < h.ae.length:=by simp at hb; omega
  refine ⟨hb.2,fun _=>⟨xI _ (dq hb.2.1 hb.2.2),?_⟩⟩
  rintro _ rfl _
  unfold eB
  rw [if_neg (by unfold qf; omega),CQ]
  rfl
theorem je {h:ak} (hc:(aB h).2=0):(bP (bN h)).2=0∧¬ o5 h.ae∧(hGo h.ae h.ao 0 []).2=0:=by
 unfold aB at hc
 split at hc
 ·cases hc
 ·rename_i hb
  split at hc
  ·rename_i hh; exact absurd hc hh
  ·rename_i hh
   refine ⟨?_,hb,hc⟩
   exact Decidable.of_not_not hh
theorem ph {l:List av} (h:(bP l).2=0):nQ l (opsOf l):=by
 have:=vZ h l.length (by omega)
 rwa [List.take_length] at this
theorem sH {l:List av} (h:(bP l).2=0):(opsOf l).length≤l.length∧l.length≤10000:=by
 refine ⟨?_,(tb h).1⟩
 have h1:=om l
 have h2:ku l≤l.length:=by
  unfold ku
  have:=List.countP_le_length (p:=fun x:av=>x.bk == 1) (l:=l)
  omega
 omega
theorem xt {l:List av} (h:(bP l).2=0):gl l=(opsOf l,0):=by unfold gl; rw [if_neg (by omega)]
theorem sI {h:ak} (hc:(aB h).2=0) {i:Int} (h0:0≤i) (h1:i < (bp h).length):0≤(gi (bp h) i).aF∧(gi (bp h) i).aF < h.ao.length:=by
 obtain ⟨n,rfl⟩:=Int.eq_ofNat_of_zero_le h0
 have H:=(ph (je hc).1).one n (by unfold bp at h1; omega)
 have hl:=nZ h
 exact ⟨(fo H.1).1,by have:=H.2.1; unfold bp; omega⟩
theorem v24 (h:ak) (hp:fQ h):VC24 h (fun r=>r=cA h):=by
 obtain ⟨o4,mt,xI⟩:=hp
 unfold VC24
 intro _ _
 refine ⟨⟨o4,mt,xI⟩,?_⟩
 rintro _ rfl
 unfold cA
 refine ⟨fun hb=>by rw [if_pos (by simpa using hb)],fun hb=>⟨mt,?_⟩⟩
 have hb:(aB h).2=0:=by simpa using hb
 rw [if_neg (by omega)]
 rintro _ rfl _ _ rfl _
 have vp:(gl (bN h)).1=bp h:=by rw [xt (je hb).1]; rfl
 have hlen:=sH (je hb).1
 have Cl:(bp h).length≤10000:=by unfold bp; omega
 rw [vp]
 refine ⟨fun out x=>∃ t:Nat,x=t∧t≤(bp h).length∧out=((bp h).take t).map fun o=>(gi h.ao o.aF).ax,fun _ x=>((bp h).length - x).toNat,⟨0,rfl,by omega,rfl⟩,?_⟩
 rintro _ _ ⟨t,rfl,ht,rfl⟩
 refine ⟨fun hi=>?_,fun hi=>?_⟩
 ·rw [decide_eq_true_eq] at hi
  rw [wrp (n:=(t:Int)+1) (by omega) (by omega)]
  have hin:=sI hb (i:=(t:Int)) (by omega) hi
  refine ⟨⟨by omega,hi⟩,hin,by simp; omega,⟨t+1,by push_cast; rfl,by omega,?_⟩,by dsimp only; omega⟩
  rw [e9 (by omega),List.map_append]; rfl
 ·rw [decide_eq_false_iff_not] at hi
  unfold VC24_J1 ofH
  rw [List.take_of_length_le (by omega),vp]
theorem v16 (os:List ah) (l:List aD) (hp:km os l):VC16 os l (fun r=>r=bb os l):=by
 obtain ⟨o4,mt⟩:=hp
 unfold VC16
 intro _ _
 refine ⟨⟨o4,mt⟩,?_⟩
 rintro _ rfl
 unfold bb cA dz
 generalize hh:(⟨os,l.map toL⟩:ak)=h
 have A3:cl l=bN h:=by rw [← hh,lY]
 have Nf:h.ao=l.map toL:=by rw [← hh]
 refine ⟨fun hb=>by rw [if_pos (by simpa using hb)],fun hb=>⟨mt,?_⟩⟩
 have hb:(aB h).2=0:=by simpa using hb
 rw [if_neg (by omega)]
 rintro _ rfl _ _ rfl _
 have vp:(iq (cl l)).1=bp h:=by rw [A3]; show (gl (bN h)).1=_; rw [xt (je hb).1]; rfl
 have hlen:=sH (je hb).1
 have Cl:(bp h).length≤10000:=by unfold bp; omega
 have ge:h.ao.length=l.length:=by rw [Nf,List.length_map]
 rw [vp]
 refine ⟨fun out x=>∃ t:Nat,x=t∧t≤(bp h).length∧out=((bp h).take t).map fun o=>(gi h.ao o.aF).ax,fun _ x=>((bp h).length - x).toNat,⟨0,rfl,by omega,rfl⟩,?_⟩
 rintro _ _ ⟨t,rfl,ht,rfl⟩
 refine ⟨fun hi=>?_,fun hi=>?_⟩
 ·rw [decide_eq_true_eq] at hi
  rw [wrp (n:=(t:Int)+1) (by omega) (by omega)]
  have hin:=sI hb (i:=(t:Int)) (by omega) hi
  have hg:(gi h.ao (gi (bp h) (t:Int)).aF).ax=(gi l (gi (bp h) (t:Int)).aF).ax:=by
   rw [Nf,kp toL hin.1 (by omega)]; rfl
  refine ⟨⟨by omega,hi⟩,⟨hin.1,by omega⟩,by simp; omega,⟨t+1,by push_cast; rfl,by omega,?_⟩,by dsimp only; omega⟩
  rw [e9 (by omega),List.map_append,List.map_cons,List.map_nil,hg]
 ·rw [decide_eq_false_iff_not] at hi
  unfold VC16_J1 ofH
  rw [List.take_of_length_le (by omega),vp]
end Go.Proofs.YteahldlmkheleaaGreat
