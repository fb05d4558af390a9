/- z1 jx of a C2. -/
import Derived.Test.YteahldlmkheleaaGreatLV13
import Derived.Test.YteahldlmkheleaaGreatLV11
set_option linter.all false
namespace Go.Proofs.YteahldlmkheleaaGreat
open Go Go.Sv Go.Pu
theorem rO:∀ (a b:List au) (i:Int) (ops:List ab),lq (a++b) i ops=lq b (i+a.length) (lq a i ops)
 | [],b,i,ops=>by simp [lq]
 | x :: a,b,i,ops=>by
  rw [List.cons_append,lq,rO a b,lq]
  congr 1
  simp only [List.length_cons]; push_cast; omega
theorem mO (l:List au) (x:au):opsOf (l++[x])=fe (opsOf l) (l.length:Int) x:=by
 unfold opsOf
 rw [rO]
 simp [lq]
theorem wQ (k:Int) (x:au) (o:ab):(fI k x o).ah=o.ah∧(fI k x o).Kind=o.Kind∧(fI k x o).aD=o.aD:=by
 unfold fI; split <;> exact ⟨rfl,rfl,rfl⟩
theorem kP {k:Int} {x:au} {o:ab} (h:¬ (o.End=-1∧o.ah=x.ah)):fI k x o=o:=by
 unfold fI; rw [if_neg h]
theorem ox {k:Int} {x:au} {o:ab} (h:o.End=-1∧o.ah=x.ah):fI k x o=⟨o.ah,o.Kind,o.aD,k,x.N⟩:=by
 unfold fI; rw [if_pos h]
theorem yf {ops:List ab} {k:Int} {x:au} {i:Nat} (h:i < ops.length):gi (fe ops k x) (i:Int)=fI k x (gi ops (i:Int)):=by
 unfold fe
 rw [cd _ _ (by rw [List.length_append,List.length_map]; omega),cd _ _ h,List.getElem_append_left (by rw [List.length_map]; exact h),List.getElem_map]
theorem FL {ops:List ab} {k:Int} {x:au} (h:x.bh=1):gi (fe ops k x) (ops.length:Int)=⟨x.ah,x.N,k,-1,-1⟩:=by
 unfold fe
 rw [if_pos h,cd _ _ (by simp)]
 rw [List.getElem_append_right (by simp)]
 simp
theorem pH (ops:List ab) (k:Int) (x:au):(fe ops k x).length=ops.length+(if x.bh=1 then 1 else 0):=by
 unfold fe
 rw [List.length_append,List.length_map]
 split <;> simp
theorem wS (l:List au) (x:au):kx (l++[x])=kx l+(if x.bh=1 then 1 else 0):=by
 unfold kx
 rw [List.countP_append]
 by_cases h:x.bh=1
 ·simp [h]
 ·simp [h]
theorem tY {α:Type} {P:List α→Prop} (h0:P []) (h1:∀ l x,P l→P (l++[x])) (l:List α):P l:=by
 rw [← List.reverse_reverse l]
 generalize l.reverse=r
 induction r with
 | nil=>exact h0
 | cons x r ih=>rw [List.reverse_cons]; exact h1 _ _ ih
theorem oy (l:List au):((opsOf l).length:Int)=kx l:=by
 refine tY (P:=fun l=>((opsOf l).length:Int)=kx l) rfl (fun l x ih=>?_) l
 rw [mO,wS,pH,← ih]; push_cast; split <;> rfl
theorem oC (o:ab):da o=0↔1≤o.ah∧o.ah≤1000∧0≤o.aD∧o.aD≤9999∧0≤o.Kind∧o.Kind < 64∧dU o=true:=by
 unfold da
 by_cases h1:o.ah < 1∨o.ah > 1000∨o.aD < 0∨o.aD > 9999
 ·rw [if_pos h1]; simp; omega
 ·rw [if_neg h1]
  by_cases h2:o.Kind < 0∨o.Kind≥64
  ·rw [if_pos h2]; simp; omega
  ·rw [if_neg h2]
   cases h3:dU o with
   | true=>simp; omega
   | false=>simp
structure mD (l:List au) (ops:List ab):Prop where
 one:∀ i:Nat,i < ops.length→da (gi ops (i:Int))=0∧(gi ops (i:Int)).aD < l.length∧(gi ops (i:Int)).End < l.length
 two:∀ i j:Nat,i < j→j < ops.length→(gi ops (i:Int)).aD < (gi ops (j:Int)).aD∧((gi ops (i:Int)).End≠-1→(gi ops (i:Int)).End≠(gi ops (j:Int)).End)∧(gi ops (i:Int)).End≠(gi ops (j:Int)).aD∧(gi ops (i:Int)).aD≠(gi ops (j:Int)).End∧((gi ops (i:Int)).ah=(gi ops (j:Int)).ah→(gi ops (i:Int)).End≠-1∧(gi ops (i:Int)).End < (gi ops (j:Int)).aD)
 opn:∀ p,dW l p=1→∃ j:Nat,j < ops.length∧(gi ops (j:Int)).ah=p∧(gi ops (j:Int)).End=-1
 shut:∀ p,dW l p≠1→∀ j:Nat,j < ops.length→(gi ops (j:Int)).ah=p→(gi ops (j:Int)).End≠-1
def qB (l:List au) (x:au):Prop:=evE x=0∧((dW l x.ah == 1) == (x.bh == 1))=false∧l.length < 10000
theorem Dd {x:au} (h:evE x=0) (hw:x.bh=1):x.N < 64:=by
 unfold evE at h
 split at h
 ·cases h
 split at h
 ·cases h
 split at h
 ·cases h
 ·rename_i h3; omega
theorem jz {l:List au} {x:au} (h:qB l x):(x.bh=1∧dW l x.ah≠1)∨(x.bh=2∧dW l x.ah=1):=by
 obtain ⟨h1,h2,_⟩:=h
 rcases (Bw h1).1 with h | h
 ·left; refine ⟨h,fun hh=>?_⟩
  rw [h,hh] at h2; simp at h2
 ·right; refine ⟨h,?_⟩
  rw [h] at h2
  simpa using h2
theorem qD {l:List au} {ops:List ab} {x:au} (H:mD l ops) (hl:dW l x.ah≠1) (k:Int):∀ i:Nat,i < ops.length→fI k x (gi ops (i:Int))=gi ops (i:Int):=fun i hi =>
 kP (fun hh=>H.shut _ hl i hi hh.2 hh.1)
theorem AI {l:List au} {ops:List ab} {x:au} (H:mD l ops) (hx:qB l x):mD (l++[x]) (fe ops (l.length:Int) x):=by
 obtain ⟨e1,e2,e3,e4,e5⟩:=Bw hx.1
 have hlen:=hx.2.2
 have KI:((l++[x]).length:Int)=l.length+1:=by simp
 have hf:∀ i:Nat,i < ops.length→0≤(gi ops (i:Int)).aD∧((gi ops (i:Int)).End=-1∨(gi ops (i:Int)).End > (gi ops (i:Int)).aD):=fun i hi=>en (H.one i hi).1
 rcases jz hx with ⟨w,hl⟩ | ⟨w,hl⟩
 ·-- a call
  have hg:∀ i:Nat,i < ops.length→gi (fe ops (l.length:Int) x) (i:Int)=gi ops (i:Int):=fun i hi=>by rw [yf hi,qD H hl _ i hi]
  have hn:=FL (ops:=ops) (k:=(l.length:Int)) w
  have hL:(fe ops (l.length:Int) x).length=ops.length+1:=by rw [pH,if_pos w]
  have hk:=Dd hx.1 w
  refine ⟨fun i hi=>?_,fun i j vI hj=>?_,fun p hp=>?_,fun p hp j hj vG=>?_⟩
  ·by_cases e:i=ops.length
   ·subst e
    rw [hn,KI]
    refine ⟨(oC _).2 ⟨e2,e3,by dsimp only; omega,by dsimp only; omega,e4,hk,rfl⟩,by dsimp only; omega,by dsimp only; omega⟩
   ·rw [hg i (by omega),KI]
    obtain ⟨a,b,c⟩:=H.one i (by omega)
    exact ⟨a,by omega,by omega⟩
  ·rw [hg i (by omega)]
   by_cases e:j=ops.length
   ·subst e
    rw [hn]
    obtain ⟨a,b,c⟩:=H.one i (by omega)
    have:=hf i (by omega)
    refine ⟨b,fun h=>h,by dsimp only; omega,by dsimp only; omega,fun vG=>⟨H.shut _ hl i (by omega) vG,c⟩⟩
   ·rw [hg j (by omega)]
    exact H.two i j vI (by omega)
  ·rw [eU] at hp
   by_cases e:x.ah=p
   ·exact ⟨ops.length,by omega,by rw [hn]; exact e,by rw [hn]⟩
   ·rw [if_neg e] at hp
    obtain ⟨j,hj,a,b⟩:=H.opn p hp
    exact ⟨j,by omega,by rw [hg j hj]; exact a,by rw [hg j hj]; exact b⟩
  ·rw [eU] at hp
   by_cases e:x.ah=p
   ·rw [if_pos e] at hp; exact absurd w hp
   ·rw [if_neg e] at hp
    by_cases ej:j=ops.length
    ·subst ej; rw [hn] at vG; exact absurd vG e
    ·rw [hg j (by omega)] at vG ⊢
     exact H.shut p hp j (by omega) vG
 ·-- a return
  have hL:(fe ops (l.length:Int) x).length=ops.length:=by rw [pH,if_neg (by omega)]; rfl
  have hg:∀ i:Nat,i < ops.length→gi (fe ops (l.length:Int) x) (i:Int)=fI (l.length:Int) x (gi ops (i:Int)):=fun i hi=>yf hi
  have hE:∀ i:Nat,(fI (l.length:Int) x (gi ops (i:Int))).End=if (gi ops (i:Int)).End=-1∧(gi ops (i:Int)).ah=x.ah then (l.length:Int) else (gi ops (i:Int)).End:=fun i=>by unfold fI; split <;> rfl
  have hs:=fun i:Nat=>wQ (l.length:Int) x (gi ops (i:Int))
  have H1:=H.one; have H2:=H.two
  refine ⟨fun i hi=>?_,fun i j vI hj=>?_,fun p hp=>?_,fun p hp j hj vG=>?_⟩
  ·obtain ⟨a,b,c⟩:=H1 i (by omega)
   rw [hg i (by omega),KI]
   by_cases e:(gi ops (i:Int)).End=-1∧(gi ops (i:Int)).ah=x.ah
   ·rw [ox e]
    obtain ⟨a1,a2,a3,a4,a5,a6,a7⟩:=(oC _).1 a
    refine ⟨(oC _).2 ⟨a1,a2,a3,a4,a5,a6,?_⟩,by dsimp only; omega,by dsimp only; omega⟩
    unfold dU
    dsimp only
    rw [if_neg (by omega)]
    simp only [Bool.and_eq_true,decide_eq_true_eq]
    omega
   ·rw [kP e]; exact ⟨a,by omega,by omega⟩
  ·rw [hg i (by omega),hg j (by omega)]
   obtain ⟨a1,b1,c1⟩:=H1 i (by omega)
   obtain ⟨a2,b2,c2⟩:=H1 j (by omega)
   obtain ⟨t1,t2,t3,t4,t5⟩:=H2 i j vI (by omega)
   have f1:=hf i (by omega)
   have f2:=hf j (by omega)
   rw [hE i,hE j,(hs i).2.2,(hs j).2.2,(hs i).1,(hs j).1]
   by_cases ei:(gi ops (i:Int)).End=-1∧(gi ops (i:Int)).ah=x.ah
   ·rw [if_pos ei]
    have hne:(gi ops (j:Int)).ah≠x.ah:=fun h=>(t5 (by rw [ei.2,h])).1 ei.1
    rw [if_neg (fun h=>hne h.2)]
    exact ⟨t1,fun _=>by omega,by omega,by omega,fun h=>absurd (h.symm.trans ei.2) hne⟩
   ·rw [if_neg ei]
    by_cases ej:(gi ops (j:Int)).End=-1∧(gi ops (j:Int)).ah=x.ah
    ·rw [if_pos ej]
     exact ⟨t1,fun _=>by omega,t3,by omega,t5⟩
    ·rw [if_neg ej]
     exact ⟨t1,t2,t3,t4,t5⟩
  ·rw [eU] at hp
   by_cases e:x.ah=p
   ·rw [if_pos e] at hp; omega
   ·rw [if_neg e] at hp
    obtain ⟨j,hj,a,b⟩:=H.opn p hp
    have:fI (l.length:Int) x (gi ops (j:Int))=gi ops (j:Int):=kP (fun h=>e (h.2.symm.trans a))
    exact ⟨j,by omega,by rw [hg j (by omega),this]; exact a,by rw [hg j (by omega),this]; exact b⟩
  ·rw [hg j (by omega),(hs j).1] at vG
   rw [hg j (by omega),hE j]
   rw [eU] at hp
   have f1:=hf j (by omega)
   by_cases e:x.ah=p
   ·split
    ·omega
    ·rename_i hh
     exact fun h=>hh ⟨h,by rw [vG,e]⟩
   ·rw [if_neg e] at hp
    have:=H.shut p hp j (by omega) vG
    rw [if_neg (fun h=>this h.1)]; exact this
theorem CM:mD [] []:=⟨fun i h=>by simp at h,fun i j _ h=>by simp at h,fun p h=>by simp [dW] at h,fun p _ j h=>by simp at h⟩
theorem py {l:List au} (h:(bw l).2=0) {k:Nat} (hk:k < l.length):qB (l.take k) (gi l (k:Int)):=by
 obtain ⟨h1,h2⟩:=qA h
 obtain ⟨a,b⟩:=h2 (k:Int) (by omega) (by omega)
 rw [show ((k:Nat):Int).toNat=k by omega] at b
 exact ⟨a,b,by rw [List.length_take]; omega⟩
theorem rh {l:List au} {k:Nat} (hk:k < l.length):l.take (k+1)=l.take k++[gi l (k:Int)]:=by
 have:=nq (l:=l) (i:=(k:Int)) (by omega) (by omega)
 rwa [show ((k:Int)+1).toNat=k+1 by omega,show ((k:Nat):Int).toNat=k by omega] at this
theorem wx {l:List au} (h:(bw l).2=0):∀ k:Nat,k≤l.length→mD (l.take k) (opsOf (l.take k))
 | 0,_=>by rw [List.take_zero]; exact CM
 | k+1,hk=>by
  rw [rh hk,mO]
  exact AI (wx h k (by omega)) (py h hk)
theorem qE {l:List ab} (h5:l.length≤5000) (h1:∀ i:Nat,i < l.length→da (gi l (i:Int))=0) (h2:∀ i j:Nat,i < j→j < l.length→(gi l (i:Int)).aD < (gi l (j:Int)).aD∧j9 (gi l (i:Int)) (gi l (j:Int))=false∧((gi l (i:Int)).ah=(gi l (j:Int)).ah→bb (gi l (i:Int)) (gi l (j:Int))=true)) :
  ∀ (f:Nat) (u:List (Int × Int)) (la:List (Int × ab)) (i:Nat),i+f=l.length→sj l u i→ta l la i→(dK l f u la i).2=0
 | 0,u,la,i,_,_,_=>rfl
 | f+1,u,la,i,hi,hu,Mw=>by
  have hp:wm l i:=fun k hk=>⟨h1 k (by omega),fun j hj=>⟨(h2 j k hj (by omega)).1,(h2 j k hj (by omega)).2.2⟩⟩
  rw [dK,if_neg (by rw [h1 i (by omega)]; simp),if_neg,if_neg]
  ·exact qE h5 h1 h2 f _ _ (i+1) (by omega) (yH hu (by omega)) (zl Mw)
  ·rw [za Mw hp]
   rintro ⟨k,hk,a,b⟩
   rw [(h2 k i hk (by omega)).2.2 a] at b; cases b
  ·rw [zb hu hp (h1 i (by omega))]
   rintro ⟨k,hk,a | a⟩
   ·have:=(h2 k i hk (by omega)).1; omega
   ·rw [(h2 k i hk (by omega)).2.1] at a; cases a
theorem zd {l:List au} {ops:List ab} (H:mD l ops) (h5:ops.length≤5000):(cc ops).2=0:=by
 unfold cc
 rw [if_neg (by omega)]
 refine qE h5 (fun i hi=>(H.one i hi).1) (fun i j vI hj=>?_) _ _ _ 0 (by omega) (fun t=>⟨by simp [e8,aC],by simp [e8,aC],by simp [e8,aC]⟩) (fun p=>by simp [aC])
 obtain ⟨t1,t2,t3,t4,t5⟩:=H.two i j vI hj
 refine ⟨t1,?_,fun hp=>?_⟩
 ·rw [← Bool.not_eq_true,kH]
  rintro (h | h | h | h)
  ·omega
  ·exact t3 h
  ·exact t4 h
  ·exact t2 h.2 h.1
 ·obtain ⟨a,b⟩:=t5 hp
  have:=en (H.one i (by omega)).1
  unfold bb
  rw [Bool.and_eq_true,decide_eq_true_eq,decide_eq_true_eq]
  exact ⟨by omega,b⟩
theorem yJ {l:List au} {ops:List ab} {x:au} (H:mD l ops) (hl:dW l x.ah≠1) (w:x.bh=1) (k:Int):fe ops k x=ops++[⟨x.ah,x.N,k,-1,-1⟩]:=by
 unfold fe
 rw [if_pos w]
 congr 1
 apply List.ext_getElem (by simp)
 intro i h1 h2
 rw [List.getElem_map]
 have:=qD H hl k i h2
 rw [cd _ _ h2] at this
 exact this
theorem step_ret {l:List au} {ops:List ab} {x:au} (H:mD l ops) (w:x.bh≠1) {j:Nat} (hj:j < ops.length) (hp:(gi ops (j:Int)).ah=x.ah) (he:(gi ops (j:Int)).End=-1) (k:Int):fe ops k x=ops.set j ⟨(gi ops (j:Int)).ah,(gi ops (j:Int)).Kind,(gi ops (j:Int)).aD,k,x.N⟩:=by
 unfold fe
 rw [if_neg w,List.append_nil]
 apply List.ext_getElem (by simp)
 intro i h1 h2
 have h2:i < ops.length:=by simpa using h2
 rw [List.getElem_map,List.getElem_set]
 have e:=cd ops i h2
 by_cases ij:j=i
 ·subst ij
  rw [if_pos rfl,← e,ox ⟨he,hp⟩]
 ·rw [if_neg ij,← e,kP]
  rintro ⟨h3,h4⟩
  rcases Nat.lt_or_gt_of_ne ij with h | h
  ·exact ((H.two j i h h2).2.2.2.2 (by rw [hp,h4])).1 he
  ·exact ((H.two i j h hj).2.2.2.2 (by rw [hp,h4])).1 h3
def EW (l:List au) (ops:List ab) (m:List (Int × Int)):Prop:=∀ p,dW l p=1→∃ j:Nat,(aC m p).getD 0=(j:Int)∧j < ops.length∧(gi ops (j:Int)).ah=p∧(gi ops (j:Int)).End=-1
theorem uS {α:Type} [Inhabited α] {l:List α} {j:Nat} {a:α} (h:j < l.length):gi (l.set j a) (j:Int)=a:=by
 rw [cd _ _ (by simpa using h)]; simp
theorem nK {α:Type} [Inhabited α] {l:List α} {i j:Nat} {a:α} (h:i < l.length) (hne:j≠i):gi (l.set j a) (i:Int)=gi l (i:Int):=by
 rw [cd _ _ (by simpa using h),cd _ _ h,List.getElem_set_ne hne]
theorem v56 (l:List au):VC56 l (fun r=>r=gw l):=by
 intro Cd
 rintro _ rfl
 unfold gw
 refine ⟨fun h=>by rw [if_pos (by simpa using h)],fun h=>?_⟩
 have h:(bw l).2=0:=by simpa using h
 rw [if_neg (by omega)]
 have h10:=(qA h).1
 refine ⟨fun out m x=>∃ k:Nat,x=(k:Int)∧k≤l.length∧out=opsOf (l.take k)∧EW (l.take k) out m,fun _ _ x=>(l.length - x).toNat,⟨0,rfl,by omega,rfl,fun p hp=>by simp [dW] at hp⟩,?_⟩
 rintro out m _ ⟨k,rfl,hk,rfl,vH⟩
 refine ⟨fun hi=>?_,fun hi=>?_⟩
 ·have hi:=of_decide_eq_true hi
  have hk:k < l.length:=by omega
  have H:=wx h k (by omega)
  have hx:=py h hk
  have Gn:=rh hk
  have ol:((l.take k).length:Int)=(k:Int):=by rw [List.length_take]; omega
  have zr:=oy (l.take k)
  have DS:(opsOf (l.take k)).length≤10000:=by
   have:kx (l.take k)≤k:=by
    unfold kx
    have:=List.countP_le_length (p:=fun x:au=>x.bh == 1) (l:=l.take k)
    omega
   omega
  have zn:=mO (l.take k) (gi l (k:Int))
  rw [ol] at zn
  refine ⟨⟨by omega,hi⟩,fun w=>⟨by simp; omega,?_⟩,fun w=>?_⟩
  ·have w:(gi l (k:Int)).bh=1:=by simpa using w
   rcases jz hx with ⟨_,hl⟩ | ⟨w2,_⟩
   ·unfold VC56_J2
    rw [wrp (by omega) (by omega)]
    refine ⟨⟨k+1,by push_cast; rfl,by omega,?_,?_⟩,by first | omega | (dsimp only; omega)⟩
    ·rw [Gn,zn,yJ H hl w]
    ·rw [Gn]
     intro p hp
     rw [eU] at hp
     by_cases e:p=(gi l (k:Int)).ah
     ·subst e
      refine ⟨(opsOf (l.take k)).length,by rw [eO,if_pos rfl]; rfl,by simp,?_,?_⟩ <;> rw [cd _ _ (by simp)] <;> simp
     ·rw [if_neg (fun hh=>e hh.symm)] at hp
      obtain ⟨j,j1,j2,j3,j4⟩:=vH p hp
      have eg:gi (opsOf (l.take k)++[(⟨(gi l (k:Int)).ah,(gi l (k:Int)).N,(k:Int),-1,-1⟩:ab)]) (j:Int)=gi (opsOf (l.take k)) (j:Int):=FM (by omega) (by omega)
      exact ⟨j,by rw [eO,if_neg e]; exact j1,by simp; omega,by rw [eg]; exact j3,by rw [eg]; exact j4⟩
   ·omega
  ·have w:(gi l (k:Int)).bh≠1:=by simpa using w
   rcases jz hx with ⟨w2,_⟩ | ⟨w2,hl⟩
   ·omega
   ·obtain ⟨j,j1,j2,j3,j4⟩:=vH _ hl
    rw [j1]
    refine ⟨⟨by omega,by omega⟩,?_⟩
    unfold VC56_J2
    rw [wrp (by omega) (by omega)]
    rw [show ((j:Nat):Int).toNat=j by omega,uS j2,List.set_set]
    refine ⟨⟨k+1,by push_cast; rfl,by omega,?_,?_⟩,by first | omega | (dsimp only; omega)⟩
    ·rw [Gn,zn,step_ret H w j2 j3 j4]
    ·rw [Gn]
     intro p hp
     rw [eU] at hp
     by_cases e:p=(gi l (k:Int)).ah
     ·subst e; rw [if_pos rfl] at hp; omega
     ·rw [if_neg (fun hh=>e hh.symm)] at hp
      obtain ⟨q,q1,q2,q3,q4⟩:=vH p hp
      have hne:j≠q:=by rintro rfl; exact e (q3.symm.trans j3)
      exact ⟨q,q1,by simpa using q2,by rw [nK q2 hne]; exact q3,by rw [nK q2 hne]; exact q4⟩
 ·have hi:=of_decide_eq_false hi
  unfold VC56_J1
  rw [List.take_of_length_le (by omega)]
theorem v92 (s:List Int) (v:Int):VC92 s v (fun r=>r=dM s v):=by
 intro hs
 simp only [sm] at hs
 unfold dM
 refine ⟨fun x=>∃ k:Nat,x=(k:Int)∧k≤s.length∧oT v (s.drop k) (k:Int)=oT v s 0,fun x=>(s.length - x).toNat,⟨0,rfl,by omega,rfl⟩,?_⟩
 rintro _ ⟨k,rfl,hk,hg⟩
 refine ⟨fun h=>?_,fun h=>?_⟩
 ·have h:=of_decide_eq_true h
  rw [gx (l:=s) (i:=k) (by omega),oT] at hg
  refine ⟨⟨by omega,h⟩,fun h2=>?_,fun h2=>?_⟩
  ·rw [if_pos (by simpa using h2)] at hg; exact hg
  ·rw [if_neg (by simpa using h2)] at hg
   rw [wrp (by omega) (by omega)]
   exact ⟨⟨k+1,by push_cast; rfl,by omega,by push_cast; exact hg⟩,by first | omega | (dsimp only; omega)⟩
 ·have h:=of_decide_eq_false h
  rw [List.drop_eq_nil_of_le (by omega)] at hg
  exact hg
theorem xR (v:Int):∀ (s:List Int) (i:Int),0≤i→(oT v s i≥0↔v∈s)
 | [],i,_=>by simp [oT]
 | y :: s,i,h=>by
  rw [oT]
  by_cases e:v=y
  ·subst e; rw [if_pos rfl]; simp; omega
  ·rw [if_neg e,xR v s (i+1) (by omega)]; simp [e]
theorem v77 (s:List Int) (v:Int):VC77 s v (fun r=>r=cn s v):=by
 intro _
 rintro _ rfl
 exact decide_eq_decide.2 (xR v s 0 (by omega))
theorem v49 (s:List a9) (hp:xH s):VC49 s (fun r=>r=cS s):=by
 have hl:s.length≤1000000:=hp
 intro _ b hb
 exact ⟨fun h=>(hb h).symm,fun _=>⟨by simp; omega,rfl⟩⟩
def fwd (p:Int):List au→Int→Int × Int
 | [],_=>(-1,-1)
 | x :: r,k=>if x.ah=p then (k,x.N) else fwd p r (k+1)
def j8:List au→Int→List ab
 | [],_=>[]
 | x :: r,i=>(if x.bh=1 then [⟨x.ah,x.N,i,(fwd x.ah r (i+1)).1,(fwd x.ah r (i+1)).2⟩] else [])++j8 r (i+1)
def finish (l:List au) (i:Int) (o:ab):ab:=if o.End=-1∧(fwd o.ah l i).1≠-1 then ⟨o.ah,o.Kind,o.aD,(fwd o.ah l i).1,(fwd o.ah l i).2⟩ else o
theorem uU (p:Int):∀ (l:List au) (k:Int),0≤k→(fwd p l k).1=-1→(fwd p l k).2=-1
 | [],_,_,_=>rfl
 | x :: l,k,h,e=>by
  rw [fwd] at e ⊢
  split at e
  ·dsimp only at e; omega
  ·rename_i hh; rw [if_neg hh]; exact uU p l (k+1) (by omega) e
theorem tl {l:List au} {x:au} {i:Int} (h:0≤i) (o:ab):finish l (i+1) (fI i x o)=finish (x :: l) i o:=by
 by_cases e:o.End=-1
 ·by_cases p:o.ah=x.ah
  ·rw [ox ⟨e,p⟩]
   unfold finish
   rw [if_neg (by dsimp only; omega),if_pos]
   ·rw [fwd,if_pos p.symm]
   ·rw [fwd,if_pos p.symm]; exact ⟨e,by dsimp only; omega⟩
  ·rw [kP (fun h=>p h.2)]
   have e2:fwd o.ah (x :: l) i=fwd o.ah l (i+1):=by rw [fwd,if_neg (fun h=>p h.symm)]
   unfold finish
   rw [e2]
 ·rw [kP (fun h=>e h.1)]
  unfold finish
  rw [if_neg (fun h=>e h.1),if_neg (fun h=>e h.1)]
theorem rN:∀ (l:List au) (i:Int) (ops:List ab),0≤i→lq l i ops=ops.map (finish l i)++j8 l i
 | [],i,ops,_=>by
  have:∀ o:ab,finish [] i o=o:=fun o=>by unfold finish; rw [if_neg (fun h=>h.2 rfl)]
  rw [lq,j8,List.append_nil,show finish [] i=id from funext this,List.map_id]
 | x :: l,i,ops,h=>by
  rw [lq,rN l (i+1) _ (by omega),j8,← List.append_assoc]
  congr 1
  unfold fe
  rw [List.map_append,List.map_map]
  congr 1
  ·exact List.map_congr_left (fun o _=>tl h o)
  ·split
   ·rw [List.map_cons,List.map_nil]
    congr 1
    unfold finish
    dsimp only
    by_cases e:(fwd x.ah l (i+1)).1=-1
    ·rw [if_neg (fun h=>h.2 e),e,uU _ _ _ (by omega) e]
    ·rw [if_pos ⟨rfl,e⟩]
   ·rfl
theorem sQ (l:List au):opsOf l=j8 l 0:=by
 unfold opsOf; rw [rN l 0 [] (by omega)]; rfl
theorem v18 (l:List au):VC18 l (fun r=>r=gh l):=by
 intro _
 rintro _ rfl
 unfold gh gw eJ
 refine ⟨fun h=>by rw [if_pos (by simpa using h)],fun h=>?_⟩
 have h:(bw l).2=0:=by simpa using h
 rw [if_neg (by omega),sQ]
 have h10:=(qA h).1
 generalize hR:j8 l 0=R
 refine ⟨fun out i=>∃ k:Nat,i=(k:Int)∧k≤l.length∧out.length≤k∧out++j8 (l.drop k) (k:Int)=R,fun _ i=>(l.length - i).toNat,⟨0,rfl,by omega,by simp,hR⟩,?_⟩
 rintro out _ ⟨k,rfl,hk,ho,hg⟩
 refine ⟨fun hi=>?_,fun hi=>?_⟩
 ·have hi:=of_decide_eq_true hi
  have hI:(0:Int)≤(k:Int)∧(k:Int) < (l.length:Int):=⟨by omega,hi⟩
  rw [gx (l:=l) (i:=k) (by omega),j8,← List.append_assoc] at hg
  refine ⟨hI,fun w=>?_,fun w=>⟨hI,hI,?_⟩⟩
  ·unfold VC18_J2
   rw [if_neg (by simpa using w),List.append_nil] at hg
   rw [wrp (by omega) (by omega)]
   exact ⟨⟨k+1,by push_cast; rfl,by omega,by omega,by push_cast; exact hg⟩,by first | omega | (dsimp only; omega)⟩
  ·rw [if_pos (by simpa using w)] at hg
   generalize hF:fwd (gi l (k:Int)).ah (l.drop (k+1)) ((k:Int)+1)=F at hg
   rw [wrp (by omega) (by omega)]
   refine ⟨fun JC q a b d e r=>out=JC∧a=(gi l (k:Int)).ah∧b=(gi l (k:Int)).N∧d=(k:Int)∧∃ q':Nat,q=(q':Int)∧q'≤l.length∧((e=-1∧r=-1∧fwd (gi l (k:Int)).ah (l.drop q') (q':Int)=F)∨(e≥0∧(e,r)=F)),fun _ q _ _ _ _ _=>(l.length - q).toNat,⟨rfl,rfl,rfl,rfl,k+1,by push_cast; rfl,by omega,.inl ⟨rfl,rfl,by push_cast; exact hF⟩⟩,?_⟩
   rintro _ _ _ _ _ e r ⟨rfl,rfl,rfl,rfl,q,rfl,hq,jW⟩
   refine ⟨fun h2=>?_,fun h2=>?_⟩
   ·rw [Bool.and_eq_true,decide_eq_true_eq,decide_eq_true_eq] at h2
    have hQ:(0:Int)≤(q:Int)∧(q:Int) < (l.length:Int):=⟨by omega,h2.1⟩
    rcases jW with ⟨rfl,rfl,hf⟩ | ⟨h3,_⟩
    ·rw [gx (l:=l) (i:=q) (by omega),fwd] at hf
     refine ⟨hQ,hI,fun h4=>⟨hQ,?_⟩,fun h4=>?_⟩
     ·rw [if_pos (by simpa using h4)] at hf
      unfold VC18_J4
      rw [wrp (by omega) (by omega)]
      exact ⟨⟨rfl,rfl,rfl,rfl,q+1,by push_cast; rfl,by omega,.inr ⟨by omega,hf⟩⟩,by first | omega | (dsimp only; omega)⟩
     ·rw [if_neg (by simpa using h4)] at hf
      unfold VC18_J4
      rw [wrp (by omega) (by omega)]
      exact ⟨⟨rfl,rfl,rfl,rfl,q+1,by push_cast; rfl,by omega,.inl ⟨rfl,rfl,by push_cast; exact hf⟩⟩,by first | omega | (dsimp only; omega)⟩
    ·omega
   ·have Pc:(e,r)=F:=by
     rcases jW with ⟨rfl,rfl,hf⟩ | ⟨_,h3⟩
     ·rw [Bool.and_eq_false_iff,decide_eq_false_iff_not,decide_eq_false_iff_not] at h2
      rw [List.drop_eq_nil_of_le (by omega)] at hf
      exact hf
     ·exact h3
    unfold VC18_J3 VC18_J2
    rw [wrp (by omega) (by omega)]
    rw [← Pc] at hg
    exact ⟨by simp; omega,⟨k+1,by push_cast; rfl,by omega,by simp; omega,by push_cast; exact hg⟩,by first | omega | (dsimp only; omega)⟩
 ·have hi:=of_decide_eq_false hi
  unfold VC18_J1
  rw [List.drop_eq_nil_of_le (by omega),j8,List.append_nil] at hg
  rw [hg]
end Go.Proofs.YteahldlmkheleaaGreat
