/- Lemmas. -/
import Derived.Test.YteahldlmkheleaaGreatLV13
import Derived.Test.YteahldlmkheleaaGreatLV11
set_option linter.all false
namespace Go.Proofs.YteahldlmkheleaaGreat
open Go Go.Sv Go.Pu
theorem sh:∀ (a b:List au) (i:Int) (ops:List ab),lZ (a++b) i ops=lZ b (i+a.length) (lZ a i ops)
 | [],b,i,ops=>by simp [lZ]
 | x :: a,b,i,ops=>by
  rw [List.cons_append,lZ,sh a b,lZ]
  congr 1
  simp only [List.length_cons]; push_cast; omega
theorem nk (l:List au) (x:au):opsOf (l++[x])=fv (opsOf l) (l.length:Int) x:=by
 unfold opsOf
 rw [sh]
 simp [lZ]
theorem xz (k:Int) (x:au) (o:ab):(fU k x o).aj=o.aj∧(fU k x o).Kind=o.Kind∧(fU k x o).aE=o.aE:=by
 unfold fU; split <;> exact ⟨rfl,rfl,rfl⟩
theorem lz {k:Int} {x:au} {o:ab} (h:¬ (o.End=-1∧o.aj=x.aj)):fU k x o=o:=by
 unfold fU; rw [if_neg h]
theorem oV {k:Int} {x:au} {o:ab} (h:o.End=-1∧o.aj=x.aj):fU k x o=⟨o.aj,o.Kind,o.aE,k,x.N⟩:=by
 unfold fU; rw [if_pos h]
theorem yS {ops:List ab} {k:Int} {x:au} {i:Nat} (h:i < ops.length):gi (fv ops k x) (i:Int)=fU k x (gi ops (i:Int)):=by
 unfold fv
 rw [cN _ _ (by rw [List.length_append,List.length_map]; omega),cN _ _ h,List.getElem_append_left (by rw [List.length_map]; exact h),List.getElem_map]
theorem G8 {ops:List ab} {k:Int} {x:au} (h:x.bh=1):gi (fv ops k x) (ops.length:Int)=⟨x.aj,x.N,k,-1,-1⟩:=by
 unfold fv
 rw [if_pos h,cN _ _ (by simp)]
 rw [List.getElem_append_right (by simp)]
 simp
theorem qb (ops:List ab) (k:Int) (x:au):(fv ops k x).length=ops.length+(if x.bh=1 then 1 else 0):=by
 unfold fv
 rw [List.length_append,List.length_map]
 split <;> simp
theorem xA (l:List au) (x:au):fN (l++[x])=fN l+(if x.bh=1 then 1 else 0):=by
 unfold fN
 rw [List.countP_append]
 by_cases h:x.bh=1
 ·simp [h]
 ·simp [h]
theorem uy {α:Type} {P:List α→Prop} (h0:P []) (h1:∀ l x,P l→P (l++[x])) (l:List α):P l:=by
 rw [← List.reverse_reverse l]
 generalize l.reverse=r
 induction r with
 | nil=>exact h0
 | cons x r ih=>rw [List.reverse_cons]; exact h1 _ _ ih
theorem lA (l:List au):((opsOf l).length:Int)=fN l:=by
 refine uy (P:=fun l=>((opsOf l).length:Int)=fN l) rfl (fun l x ih=>?_) l
 rw [nk,xA,qb,← ih]; push_cast; split <;> rfl
theorem oX (o:ab):cQ o=0↔1≤o.aj∧o.aj≤1000∧0≤o.aE∧o.aE≤9999∧0≤o.Kind∧o.Kind < 64∧dR o=true:=by
 unfold cQ
 by_cases h1:o.aj < 1∨o.aj > 1000∨o.aE < 0∨o.aE > 9999
 ·rw [if_pos h1]; simp; omega
 ·rw [if_neg h1]
  by_cases h2:o.Kind < 0∨o.Kind≥64
  ·rw [if_pos h2]; simp; omega
  ·rw [if_neg h2]
   cases h3:dR o with
   | true=>simp; omega
   | false=>simp
structure oA (l:List au) (ops:List ab):Prop where
 one:∀ i:Nat,i < ops.length→cQ (gi ops (i:Int))=0∧(gi ops (i:Int)).aE < l.length∧(gi ops (i:Int)).End < l.length
 two:∀ i j:Nat,i < j→j < ops.length→(gi ops (i:Int)).aE < (gi ops (j:Int)).aE∧((gi ops (i:Int)).End≠-1→(gi ops (i:Int)).End≠(gi ops (j:Int)).End)∧(gi ops (i:Int)).End≠(gi ops (j:Int)).aE∧(gi ops (i:Int)).aE≠(gi ops (j:Int)).End∧((gi ops (i:Int)).aj=(gi ops (j:Int)).aj→(gi ops (i:Int)).End≠-1∧(gi ops (i:Int)).End < (gi ops (j:Int)).aE)
 opn:∀ p,eA l p=1→∃ j:Nat,j < ops.length∧(gi ops (j:Int)).aj=p∧(gi ops (j:Int)).End=-1
 shut:∀ p,eA l p≠1→∀ j:Nat,j < ops.length→(gi ops (j:Int)).aj=p→(gi ops (j:Int)).End≠-1
def q6 (l:List au) (x:au):Prop:=evE x=0∧((eA l x.aj == 1) == (x.bh == 1))=false∧l.length < 10000
theorem Eu {x:au} (h:evE x=0) (hw:x.bh=1):x.N < 64:=by
 unfold evE at h
 split at h
 ·cases h
 split at h
 ·cases h
 split at h
 ·cases h
 ·rename_i h3; omega
theorem jY {l:List au} {x:au} (h:q6 l x):(x.bh=1∧eA l x.aj≠1)∨(x.bh=2∧eA l x.aj=1):=by
 obtain ⟨h1,h2,_⟩:=h
 rcases (CD h1).1 with h | h
 ·left; refine ⟨h,fun hh=>?_⟩
  rw [h,hh] at h2; simp at h2
 ·right; refine ⟨h,?_⟩
  rw [h] at h2
  simpa using h2
theorem q8 {l:List au} {ops:List ab} {x:au} (H:oA l ops) (hl:eA l x.aj≠1) (k:Int):∀ i:Nat,i < ops.length→fU k x (gi ops (i:Int))=gi ops (i:Int):=fun i hi =>
 lz (fun hh=>H.shut _ hl i hi hh.2 hh.1)
theorem BC {l:List au} {ops:List ab} {x:au} (H:oA l ops) (hx:q6 l x):oA (l++[x]) (fv ops (l.length:Int) x):=by
 obtain ⟨e1,e2,e3,e4,e5⟩:=CD hx.1
 have hlen:=hx.2.2
 have Mm:((l++[x]).length:Int)=l.length+1:=by simp
 have hf:∀ i:Nat,i < ops.length→0≤(gi ops (i:Int)).aE∧((gi ops (i:Int)).End=-1∨(gi ops (i:Int)).End > (gi ops (i:Int)).aE):=fun i hi=>eU (H.one i hi).1
 rcases jY hx with ⟨w,hl⟩ | ⟨w,hl⟩
 ·
  have hg:∀ i:Nat,i < ops.length→gi (fv ops (l.length:Int) x) (i:Int)=gi ops (i:Int):=fun i hi=>by rw [yS hi,q8 H hl _ i hi]
  have hn:=G8 (ops:=ops) (k:=(l.length:Int)) w
  have hL:(fv ops (l.length:Int) x).length=ops.length+1:=by rw [qb,if_pos w]
  have hk:=Eu hx.1 w
  refine ⟨fun i hi=>?_,fun i j xr hj=>?_,fun p hp=>?_,fun p hp j hj Ca=>?_⟩
  ·by_cases e:i=ops.length
   ·subst e
    rw [hn,Mm]
    refine ⟨(oX _).2 ⟨e2,e3,by dsimp only; omega,by dsimp only; omega,e4,hk,rfl⟩,by dsimp only; omega,by dsimp only; omega⟩
   ·rw [hg i (by omega),Mm]
    obtain ⟨a,b,c⟩:=H.one i (by omega)
    exact ⟨a,by omega,by omega⟩
  ·rw [hg i (by omega)]
   by_cases e:j=ops.length
   ·subst e
    rw [hn]
    obtain ⟨a,b,c⟩:=H.one i (by omega)
    have:=hf i (by omega)
    refine ⟨b,fun h=>h,by dsimp only; omega,by dsimp only; omega,fun Ca=>⟨H.shut _ hl i (by omega) Ca,c⟩⟩
   ·rw [hg j (by omega)]
    exact H.two i j xr (by omega)
  ·rw [e8] at hp
   by_cases e:x.aj=p
   ·exact ⟨ops.length,by omega,by rw [hn]; exact e,by rw [hn]⟩
   ·rw [if_neg e] at hp
    obtain ⟨j,hj,a,b⟩:=H.opn p hp
    exact ⟨j,by omega,by rw [hg j hj]; exact a,by rw [hg j hj]; exact b⟩
  ·rw [e8] at hp
   by_cases e:x.aj=p
   ·rw [if_pos e] at hp; exact absurd w hp
   ·rw [if_neg e] at hp
    by_cases ej:j=ops.length
    ·subst ej; rw [hn] at Ca; exact absurd Ca e
    ·rw [hg j (by omega)] at Ca ⊢
     exact H.shut p hp j (by omega) Ca
 ·
  have hL:(fv ops (l.length:Int) x).length=ops.length:=by rw [qb,if_neg (by omega)]; rfl
  have hg:∀ i:Nat,i < ops.length→gi (fv ops (l.length:Int) x) (i:Int)=fU (l.length:Int) x (gi ops (i:Int)):=fun i hi=>yS hi
  have hE:∀ i:Nat,(fU (l.length:Int) x (gi ops (i:Int))).End=if (gi ops (i:Int)).End=-1∧(gi ops (i:Int)).aj=x.aj then (l.length:Int) else (gi ops (i:Int)).End:=fun i=>by unfold fU; split <;> rfl
  have hs:=fun i:Nat=>xz (l.length:Int) x (gi ops (i:Int))
  have H1:=H.one; have H2:=H.two
  refine ⟨fun i hi=>?_,fun i j xr hj=>?_,fun p hp=>?_,fun p hp j hj Ca=>?_⟩
  ·obtain ⟨a,b,c⟩:=H1 i (by omega)
   rw [hg i (by omega),Mm]
   by_cases e:(gi ops (i:Int)).End=-1∧(gi ops (i:Int)).aj=x.aj
   ·rw [oV e]
    obtain ⟨a1,a2,a3,a4,a5,a6,a7⟩:=(oX _).1 a
    refine ⟨(oX _).2 ⟨a1,a2,a3,a4,a5,a6,?_⟩,by dsimp only; omega,by dsimp only; omega⟩
    unfold dR
    dsimp only
    rw [if_neg (by omega)]
    simp only [Bool.and_eq_true,decide_eq_true_eq]
    omega
   ·rw [lz e]; exact ⟨a,by omega,by omega⟩
  ·rw [hg i (by omega),hg j (by omega)]
   obtain ⟨a1,b1,c1⟩:=H1 i (by omega)
   obtain ⟨a2,b2,c2⟩:=H1 j (by omega)
   obtain ⟨t1,t2,t3,t4,t5⟩:=H2 i j xr (by omega)
   have f1:=hf i (by omega)
   have f2:=hf j (by omega)
   rw [hE i,hE j,(hs i).2.2,(hs j).2.2,(hs i).1,(hs j).1]
   by_cases ei:(gi ops (i:Int)).End=-1∧(gi ops (i:Int)).aj=x.aj
   ·rw [if_pos ei]
    have hne:(gi ops (j:Int)).aj≠x.aj:=fun h=>(t5 (by rw [ei.2,h])).1 ei.1
    rw [if_neg (fun h=>hne h.2)]
    exact ⟨t1,fun _=>by omega,by omega,by omega,fun h=>absurd (h.symm.trans ei.2) hne⟩
   ·rw [if_neg ei]
    by_cases ej:(gi ops (j:Int)).End=-1∧(gi ops (j:Int)).aj=x.aj
    ·rw [if_pos ej]
     exact ⟨t1,fun _=>by omega,t3,by omega,t5⟩
    ·rw [if_neg ej]
     exact ⟨t1,t2,t3,t4,t5⟩
  ·rw [e8] at hp
   by_cases e:x.aj=p
   ·rw [if_pos e] at hp; omega
   ·rw [if_neg e] at hp
    obtain ⟨j,hj,a,b⟩:=H.opn p hp
    have:fU (l.length:Int) x (gi ops (j:Int))=gi ops (j:Int):=lz (fun h=>e (h.2.symm.trans a))
    exact ⟨j,by omega,by rw [hg j (by omega),this]; exact a,by rw [hg j (by omega),this]; exact b⟩
  ·rw [hg j (by omega),(hs j).1] at Ca
   rw [hg j (by omega),hE j]
   rw [e8] at hp
   have f1:=hf j (by omega)
   by_cases e:x.aj=p
   ·split
    ·omega
    ·rename_i hh
     exact fun h=>hh ⟨h,by rw [Ca,e]⟩
   ·rw [if_neg e] at hp
    have:=H.shut p hp j (by omega) Ca
    rw [if_neg (fun h=>this h.1)]; exact this
theorem D0:oA [] []:=⟨fun i h=>by simp at h,fun i j _ h=>by simp at h,fun p h=>by simp [eA] at h,fun p _ j h=>by simp at h⟩
theorem pV {l:List au} (h:(bA l).2=0) {k:Nat} (hk:k < l.length):q6 (l.take k) (gi l (k:Int)):=by
 obtain ⟨h1,h2⟩:=q5 h
 obtain ⟨a,b⟩:=h2 (k:Int) (by omega) (by omega)
 rw [show ((k:Nat):Int).toNat=k by omega] at b
 exact ⟨a,b,by rw [List.length_take]; omega⟩
theorem rN {l:List au} {k:Nat} (hk:k < l.length):l.take (k+1)=l.take k++[gi l (k:Int)]:=by
 have:=kE (l:=l) (i:=(k:Int)) (by omega) (by omega)
 rwa [show ((k:Int)+1).toNat=k+1 by omega,show ((k:Nat):Int).toNat=k by omega] at this
theorem wZ {l:List au} (h:(bA l).2=0):∀ k:Nat,k≤l.length→oA (l.take k) (opsOf (l.take k))
 | 0,_=>by rw [List.take_zero]; exact D0
 | k+1,hk=>by
  rw [rN hk,nk]
  exact BC (wZ h k (by omega)) (pV h hk)
theorem q9 {l:List ab} (h5:l.length≤5000) (h1:∀ i:Nat,i < l.length→cQ (gi l (i:Int))=0) (h2:∀ i j:Nat,i < j→j < l.length→(gi l (i:Int)).aE < (gi l (j:Int)).aE∧kJ (gi l (i:Int)) (gi l (j:Int))=false∧((gi l (i:Int)).aj=(gi l (j:Int)).aj→aZ (gi l (i:Int)) (gi l (j:Int))=true)) :
  ∀ (f:Nat) (u:List (Int × Int)) (la:List (Int × ab)) (i:Nat),i+f=l.length→sU l u i→tG l la i→(dN l f u la i).2=0
 | 0,u,la,i,_,_,_=>rfl
 | f+1,u,la,i,hi,hu,G2=>by
  have hp:wQ l i:=fun k hk=>⟨h1 k (by omega),fun j hj=>⟨(h2 j k hj (by omega)).1,(h2 j k hj (by omega)).2.2⟩⟩
  rw [dN,if_neg (by rw [h1 i (by omega)]; simp),if_neg,if_neg]
  ·exact q9 h5 h1 h2 f _ _ (i+1) (by omega) (zu hu (by omega)) (z7 G2)
  ·rw [zN G2 hp]
   rintro ⟨k,hk,a,b⟩
   rw [(h2 k i hk (by omega)).2.2 a] at b; cases b
  ·rw [zO hu hp (h1 i (by omega))]
   rintro ⟨k,hk,a | a⟩
   ·have:=(h2 k i hk (by omega)).1; omega
   ·rw [(h2 k i hk (by omega)).2.1] at a; cases a
theorem zR {l:List au} {ops:List ab} (H:oA l ops) (h5:ops.length≤5000):(bZ ops).2=0:=by
 unfold bZ
 rw [if_neg (by omega)]
 refine q9 h5 (fun i hi=>(H.one i hi).1) (fun i j xr hj=>?_) _ _ _ 0 (by omega) (fun t=>⟨by simp [fm,aF],by simp [fm,aF],by simp [fm,aF]⟩) (fun p=>by simp [aF])
 obtain ⟨t1,t2,t3,t4,t5⟩:=H.two i j xr hj
 refine ⟨t1,?_,fun hp=>?_⟩
 ·rw [← Bool.not_eq_true,lr]
  rintro (h | h | h | h)
  ·omega
  ·exact t3 h
  ·exact t4 h
  ·exact t2 h.2 h.1
 ·obtain ⟨a,b⟩:=t5 hp
  have:=eU (H.one i (by omega)).1
  unfold aZ
  rw [Bool.and_eq_true,decide_eq_true_eq,decide_eq_true_eq]
  exact ⟨by omega,b⟩
theorem zx {l:List au} {ops:List ab} {x:au} (H:oA l ops) (hl:eA l x.aj≠1) (w:x.bh=1) (k:Int):fv ops k x=ops++[⟨x.aj,x.N,k,-1,-1⟩]:=by
 unfold fv
 rw [if_pos w]
 congr 1
 apply List.ext_getElem (by simp)
 intro i h1 h2
 rw [List.getElem_map]
 have:=q8 H hl k i h2
 rw [cN _ _ h2] at this
 exact this
theorem step_ret {l:List au} {ops:List ab} {x:au} (H:oA l ops) (w:x.bh≠1) {j:Nat} (hj:j < ops.length) (hp:(gi ops (j:Int)).aj=x.aj) (he:(gi ops (j:Int)).End=-1) (k:Int):fv ops k x=ops.set j ⟨(gi ops (j:Int)).aj,(gi ops (j:Int)).Kind,(gi ops (j:Int)).aE,k,x.N⟩:=by
 unfold fv
 rw [if_neg w,List.append_nil]
 apply List.ext_getElem (by simp)
 intro i h1 h2
 have h2:i < ops.length:=by simpa using h2
 rw [List.getElem_map,List.getElem_set]
 have e:=cN ops i h2
 by_cases ij:j=i
 ·subst ij
  rw [if_pos rfl,← e,oV ⟨he,hp⟩]
 ·rw [if_neg ij,← e,lz]
  rintro ⟨h3,h4⟩
  rcases Nat.lt_or_gt_of_ne ij with h | h
  ·exact ((H.two j i h h2).2.2.2.2 (by rw [hp,h4])).1 he
  ·exact ((H.two i j h hj).2.2.2.2 (by rw [hp,h4])).1 h3
def Gn (l:List au) (ops:List ab) (m:List (Int × Int)):Prop:=∀ p,eA l p=1→∃ j:Nat,(aF m p).getD 0=(j:Int)∧j < ops.length∧(gi ops (j:Int)).aj=p∧(gi ops (j:Int)).End=-1
theorem vp {α:Type} [Inhabited α] {l:List α} {j:Nat} {a:α} (h:j < l.length):gi (l.set j a) (j:Int)=a:=by
 rw [cN _ _ (by simpa using h)]; simp
theorem n6 {α:Type} [Inhabited α] {l:List α} {i j:Nat} {a:α} (h:i < l.length) (hne:j≠i):gi (l.set j a) (i:Int)=gi l (i:Int):=by
 rw [cN _ _ (by simpa using h),cN _ _ h,List.getElem_set_ne hne]
theorem v56 (l:List au):VC56 l (fun r=>r=fD l):=by
 intro Fe
 rintro _ rfl
 unfold fD
 refine ⟨fun h=>by rw [if_pos (by simpa using h)],fun h=>?_⟩
 have h:(bA l).2=0:=by simpa using h
 rw [if_neg (by omega)]
 have h10:=(q5 h).1
 refine ⟨fun out m x=>∃ k:Nat,x=(k:Int)∧k≤l.length∧out=opsOf (l.take k)∧Gn (l.take k) out m,fun _ _ x=>(l.length - x).toNat,⟨0,rfl,by omega,rfl,fun p hp=>by simp [eA] at hp⟩,?_⟩
 rintro out m _ ⟨k,rfl,hk,rfl,wg⟩
 refine ⟨fun hi=>?_,fun hi=>?_⟩
 ·have hi:=of_decide_eq_true hi
  have hk:k < l.length:=by omega
  have H:=wZ h k (by omega)
  have hx:=pV h hk
  have HJ:=rN hk
  have oQ:((l.take k).length:Int)=(k:Int):=by rw [List.length_take]; omega
  have Ae:=lA (l.take k)
  have Ab:(opsOf (l.take k)).length≤10000:=by
   have:fN (l.take k)≤k:=by
    unfold fN
    have:=List.countP_le_length (p:=fun x:au=>x.bh == 1) (l:=l.take k)
    omega
   omega
  have xp:=nk (l.take k) (gi l (k:Int))
  rw [oQ] at xp
  refine ⟨⟨by omega,hi⟩,fun w=>⟨by simp; omega,?_⟩,fun w=>?_⟩
  ·have w:(gi l (k:Int)).bh=1:=by simpa using w
   rcases jY hx with ⟨_,hl⟩ | ⟨w2,_⟩
   ·unfold VC56_J2
    rw [wrp (by omega) (by omega)]
    refine ⟨⟨k+1,by push_cast; rfl,by omega,?_,?_⟩,by first | omega | (dsimp only; omega)⟩
    ·rw [HJ,xp,zx H hl w]
    ·rw [HJ]
     intro p hp
     rw [e8] at hp
     by_cases e:p=(gi l (k:Int)).aj
     ·subst e
      refine ⟨(opsOf (l.take k)).length,by rw [eX,if_pos rfl]; rfl,by simp,?_,?_⟩ <;> rw [cN _ _ (by simp)] <;> simp
     ·rw [if_neg (fun hh=>e hh.symm)] at hp
      obtain ⟨j,j1,j2,j3,j4⟩:=wg p hp
      have eg:gi (opsOf (l.take k)++[(⟨(gi l (k:Int)).aj,(gi l (k:Int)).N,(k:Int),-1,-1⟩:ab)]) (j:Int)=gi (opsOf (l.take k)) (j:Int):=G9 (by omega) (by omega)
      exact ⟨j,by rw [eX,if_neg e]; exact j1,by simp; omega,by rw [eg]; exact j3,by rw [eg]; exact j4⟩
   ·omega
  ·have w:(gi l (k:Int)).bh≠1:=by simpa using w
   rcases jY hx with ⟨w2,_⟩ | ⟨w2,hl⟩
   ·omega
   ·obtain ⟨j,j1,j2,j3,j4⟩:=wg _ hl
    rw [j1]
    refine ⟨⟨by omega,by omega⟩,?_⟩
    unfold VC56_J2
    rw [wrp (by omega) (by omega)]
    rw [show ((j:Nat):Int).toNat=j by omega,vp j2,List.set_set]
    refine ⟨⟨k+1,by push_cast; rfl,by omega,?_,?_⟩,by first | omega | (dsimp only; omega)⟩
    ·rw [HJ,xp,step_ret H w j2 j3 j4]
    ·rw [HJ]
     intro p hp
     rw [e8] at hp
     by_cases e:p=(gi l (k:Int)).aj
     ·subst e; rw [if_pos rfl] at hp; omega
     ·rw [if_neg (fun hh=>e hh.symm)] at hp
      obtain ⟨q,q1,q2,q3,q4⟩:=wg p hp
      have hne:j≠q:=by rintro rfl; exact e (q3.symm.trans j3)
      exact ⟨q,q1,by simpa using q2,by rw [n6 q2 hne]; exact q3,by rw [n6 q2 hne]; exact q4⟩
 ·have hi:=of_decide_eq_false hi
  unfold VC56_J1
  rw [List.take_of_length_le (by omega)]
theorem v92 (s:List Int) (v:Int):VC92 s v (fun r=>r=ea s v):=by
 intro hs
 simp only [sm] at hs
 unfold ea
 refine ⟨fun x=>∃ k:Nat,x=(k:Int)∧k≤s.length∧pf v (s.drop k) (k:Int)=pf v s 0,fun x=>(s.length - x).toNat,⟨0,rfl,by omega,rfl⟩,?_⟩
 rintro _ ⟨k,rfl,hk,hg⟩
 refine ⟨fun h=>?_,fun h=>?_⟩
 ·have h:=of_decide_eq_true h
  rw [fT (l:=s) (i:=k) (by omega),pf] at hg
  refine ⟨⟨by omega,h⟩,fun h2=>?_,fun h2=>?_⟩
  ·rw [if_pos (by simpa using h2)] at hg; exact hg
  ·rw [if_neg (by simpa using h2)] at hg
   rw [wrp (by omega) (by omega)]
   exact ⟨⟨k+1,by push_cast; rfl,by omega,by push_cast; exact hg⟩,by first | omega | (dsimp only; omega)⟩
 ·have h:=of_decide_eq_false h
  rw [List.drop_eq_nil_of_le (by omega)] at hg
  exact hg
theorem yy (v:Int):∀ (s:List Int) (i:Int),0≤i→(pf v s i≥0↔v∈s)
 | [],i,_=>by simp [pf]
 | y :: s,i,h=>by
  rw [pf]
  by_cases e:v=y
  ·subst e; rw [if_pos rfl]; simp; omega
  ·rw [if_neg e,yy v s (i+1) (by omega)]; simp [e]
theorem v77 (s:List Int) (v:Int):VC77 s v (fun r=>r=cx s v):=by
 intro _
 rintro _ rfl
 exact decide_eq_decide.2 (yy v s 0 (by omega))
theorem v49 (s:List ba) (hp:yl s):VC49 s (fun r=>r=cY s):=by
 have hl:s.length≤1000000:=hp
 intro _ b hb
 exact ⟨fun h=>(hb h).symm,fun _=>⟨by simp; omega,rfl⟩⟩
def fwd (p:Int):List au→Int→Int × Int
 | [],_=>(-1,-1)
 | x :: r,k=>if x.aj=p then (k,x.N) else fwd p r (k+1)
def kH:List au→Int→List ab
 | [],_=>[]
 | x :: r,i=>(if x.bh=1 then [⟨x.aj,x.N,i,(fwd x.aj r (i+1)).1,(fwd x.aj r (i+1)).2⟩] else [])++kH r (i+1)
def finish (l:List au) (i:Int) (o:ab):ab:=if o.End=-1∧(fwd o.aj l i).1≠-1 then ⟨o.aj,o.Kind,o.aE,(fwd o.aj l i).1,(fwd o.aj l i).2⟩ else o
theorem vr (p:Int):∀ (l:List au) (k:Int),0≤k→(fwd p l k).1=-1→(fwd p l k).2=-1
 | [],_,_,_=>rfl
 | x :: l,k,h,e=>by
  rw [fwd] at e ⊢
  split at e
  ·dsimp only at e; omega
  ·rename_i hh; rw [if_neg hh]; exact vr p l (k+1) (by omega) e
theorem tQ {l:List au} {x:au} {i:Int} (h:0≤i) (o:ab):finish l (i+1) (fU i x o)=finish (x :: l) i o:=by
 by_cases e:o.End=-1
 ·by_cases p:o.aj=x.aj
  ·rw [oV ⟨e,p⟩]
   unfold finish
   rw [if_neg (by dsimp only; omega),if_pos]
   ·rw [fwd,if_pos p.symm]
   ·rw [fwd,if_pos p.symm]; exact ⟨e,by dsimp only; omega⟩
  ·rw [lz (fun h=>p h.2)]
   have e2:fwd o.aj (x :: l) i=fwd o.aj l (i+1):=by rw [fwd,if_neg (fun h=>p h.symm)]
   unfold finish
   rw [e2]
 ·rw [lz (fun h=>e h.1)]
  unfold finish
  rw [if_neg (fun h=>e h.1),if_neg (fun h=>e h.1)]
theorem sg:∀ (l:List au) (i:Int) (ops:List ab),0≤i→lZ l i ops=ops.map (finish l i)++kH l i
 | [],i,ops,_=>by
  have:∀ o:ab,finish [] i o=o:=fun o=>by unfold finish; rw [if_neg (fun h=>h.2 rfl)]
  rw [lZ,kH,List.append_nil,show finish [] i=id from funext this,List.map_id]
 | x :: l,i,ops,h=>by
  rw [lZ,sg l (i+1) _ (by omega),kH,← List.append_assoc]
  congr 1
  unfold fv
  rw [List.map_append,List.map_map]
  congr 1
  ·exact List.map_congr_left (fun o _=>tQ h o)
  ·split
   ·rw [List.map_cons,List.map_nil]
    congr 1
    unfold finish
    dsimp only
    by_cases e:(fwd x.aj l (i+1)).1=-1
    ·rw [if_neg (fun h=>h.2 e),e,vr _ _ _ (by omega) e]
    ·rw [if_pos ⟨rfl,e⟩]
   ·rfl
theorem tx (l:List au):opsOf l=kH l 0:=by
 unfold opsOf; rw [sg l 0 [] (by omega)]; rfl
theorem v18 (l:List au):VC18 l (fun r=>r=eu l):=by
 intro _
 rintro _ rfl
 unfold eu fD eR
 refine ⟨fun h=>by rw [if_pos (by simpa using h)],fun h=>?_⟩
 have h:(bA l).2=0:=by simpa using h
 rw [if_neg (by omega),tx]
 have h10:=(q5 h).1
 generalize hR:kH l 0=R
 refine ⟨fun out i=>∃ k:Nat,i=(k:Int)∧k≤l.length∧out.length≤k∧out++kH (l.drop k) (k:Int)=R,fun _ i=>(l.length - i).toNat,⟨0,rfl,by omega,by simp,hR⟩,?_⟩
 rintro out _ ⟨k,rfl,hk,ho,hg⟩
 refine ⟨fun hi=>?_,fun hi=>?_⟩
 ·have hi:=of_decide_eq_true hi
  have hI:(0:Int)≤(k:Int)∧(k:Int) < (l.length:Int):=⟨by omega,hi⟩
  rw [fT (l:=l) (i:=k) (by omega),kH,← List.append_assoc] at hg
  refine ⟨hI,fun w=>?_,fun w=>⟨hI,hI,?_⟩⟩
  ·unfold VC18_J2
   rw [if_neg (by simpa using w),List.append_nil] at hg
   rw [wrp (by omega) (by omega)]
   exact ⟨⟨k+1,by push_cast; rfl,by omega,by omega,by push_cast; exact hg⟩,by first | omega | (dsimp only; omega)⟩
  ·rw [if_pos (by simpa using w)] at hg
   generalize hF:fwd (gi l (k:Int)).aj (l.drop (k+1)) ((k:Int)+1)=F at hg
   rw [wrp (by omega) (by omega)]
   refine ⟨fun Lc q a b d e r=>out=Lc∧a=(gi l (k:Int)).aj∧b=(gi l (k:Int)).N∧d=(k:Int)∧∃ q':Nat,q=(q':Int)∧q'≤l.length∧((e=-1∧r=-1∧fwd (gi l (k:Int)).aj (l.drop q') (q':Int)=F)∨(e≥0∧(e,r)=F)),fun _ q _ _ _ _ _=>(l.length - q).toNat,⟨rfl,rfl,rfl,rfl,k+1,by push_cast; rfl,by omega,.inl ⟨rfl,rfl,by push_cast; exact hF⟩⟩,?_⟩
   rintro _ _ _ _ _ e r ⟨rfl,rfl,rfl,rfl,q,rfl,hq,kV⟩
   refine ⟨fun h2=>?_,fun h2=>?_⟩
   ·rw [Bool.and_eq_true,decide_eq_true_eq,decide_eq_true_eq] at h2
    have hQ:(0:Int)≤(q:Int)∧(q:Int) < (l.length:Int):=⟨by omega,h2.1⟩
    rcases kV with ⟨rfl,rfl,hf⟩ | ⟨h3,_⟩
    ·rw [fT (l:=l) (i:=q) (by omega),fwd] at hf
     refine ⟨hQ,hI,fun h4=>⟨hQ,?_⟩,fun h4=>?_⟩
     ·rw [if_pos (by simpa using h4)] at hf
      unfold VC18_J4
      rw [wrp (by omega) (by omega)]
      exact ⟨⟨rfl,rfl,rfl,rfl,q+1,by push_cast; rfl,by omega,.inr ⟨by omega,hf⟩⟩,by first | omega | (dsimp only; omega)⟩
     ·rw [if_neg (by simpa using h4)] at hf
      unfold VC18_J4
      rw [wrp (by omega) (by omega)]
      exact ⟨⟨rfl,rfl,rfl,rfl,q+1,by push_cast; rfl,by omega,.inl ⟨rfl,rfl,by push_cast; exact hf⟩⟩,by first | omega | (dsimp only; omega)⟩
    ·omega
   ·have QA:(e,r)=F:=by
     rcases kV with ⟨rfl,rfl,hf⟩ | ⟨_,h3⟩
     ·rw [Bool.and_eq_false_iff,decide_eq_false_iff_not,decide_eq_false_iff_not] at h2
      rw [List.drop_eq_nil_of_le (by omega)] at hf
      exact hf
     ·exact h3
    unfold VC18_J3 VC18_J2
    rw [wrp (by omega) (by omega)]
    rw [← QA] at hg
    exact ⟨by simp; omega,⟨k+1,by push_cast; rfl,by omega,by simp; omega,by push_cast; exact hg⟩,by first | omega | (dsimp only; omega)⟩
 ·have hi:=of_decide_eq_false hi
  unfold VC18_J1
  rw [List.drop_eq_nil_of_le (by omega),kH,List.append_nil] at hg
  rw [hg]
end Go.Proofs.YteahldlmkheleaaGreat
