/- Lemmas. -/
import Derived.Test.YteahldlmkheleaaGreatLV13
import Derived.Test.YteahldlmkheleaaGreatLV11
set_option linter.all false
namespace Go.Proofs.YteahldlmkheleaaGreat
open Go Go.Sv Go.Pu
theorem sH:∀ (a b:List aw) (i:Int) (ops:List ab),l7 (a++b) i ops=l7 b (i+a.length) (l7 a i ops)
 | [],b,i,ops=>by simp [l7]
 | x :: a,b,i,ops=>by
  rw [List.cons_append,l7,sH a b,l7]
  congr 1
  simp only [List.length_cons]; push_cast; omega
theorem nE (l:List aw) (x:aw):opsOf (l++[x])=fA (opsOf l) (l.length:Int) x:=by
 unfold opsOf
 rw [sH]
 simp [l7]
theorem xS (k:Int) (x:aw) (o:ab):(fU k x o).ak=o.ak∧(fU k x o).Kind=o.Kind∧(fU k x o).aI=o.aI:=by
 unfold fU; split <;> exact ⟨rfl,rfl,rfl⟩
theorem lC {k:Int} {x:aw} {o:ab} (h:¬ (o.End=-1∧o.ak=x.ak)):fU k x o=o:=by
 unfold fU; rw [if_neg h]
theorem pb {k:Int} {x:aw} {o:ab} (h:o.End=-1∧o.ak=x.ak):fU k x o=⟨o.ak,o.Kind,o.aI,k,x.N⟩:=by
 unfold fU; rw [if_pos h]
theorem zn {ops:List ab} {k:Int} {x:aw} {i:Nat} (h:i < ops.length):gi (fA ops k x) (i:Int)=fU k x (gi ops (i:Int)):=by
 unfold fA
 rw [bZ _ _ (by rw [List.length_append,List.length_map]; omega),bZ _ _ h,List.getElem_append_left (by rw [List.length_map]; exact h),List.getElem_map]
theorem Hl {ops:List ab} {k:Int} {x:aw} (h:x.bo=1):gi (fA ops k x) (ops.length:Int)=⟨x.ak,x.N,k,-1,-1⟩:=by
 unfold fA
 rw [if_pos h,bZ _ _ (by simp)]
 rw [List.getElem_append_right (by simp)]
 simp
theorem qy (ops:List ab) (k:Int) (x:aw):(fA ops k x).length=ops.length+(if x.bo=1 then 1 else 0):=by
 unfold fA
 rw [List.length_append,List.length_map]
 split <;> simp
theorem xT (l:List aw) (x:aw):lf (l++[x])=lf l+(if x.bo=1 then 1 else 0):=by
 unfold lf
 rw [List.countP_append]
 by_cases h:x.bo=1
 ·simp [h]
 ·simp [h]
theorem uT {α:Type} {P:List α→Prop} (h0:P []) (h1:∀ l x,P l→P (l++[x])) (l:List α):P l:=by
 rw [← List.reverse_reverse l]
 generalize l.reverse=r
 induction r with
 | nil=>exact h0
 | cons x r ih=>rw [List.reverse_cons]; exact h1 _ _ ih
theorem pc (l:List aw):((opsOf l).length:Int)=lf l:=by
 refine uT (P:=fun l=>((opsOf l).length:Int)=lf l) rfl (fun l x ih=>?_) l
 rw [nE,xT,qy,← ih]; push_cast; split <;> rfl
theorem ph (o:ab):dq o=0↔1≤o.ak∧o.ak≤1000∧0≤o.aI∧o.aI≤9999∧0≤o.Kind∧o.Kind < 64∧eG o=true:=by
 unfold dq
 by_cases h1:o.ak < 1∨o.ak > 1000∨o.aI < 0∨o.aI > 9999
 ·rw [if_pos h1]; simp; omega
 ·rw [if_neg h1]
  by_cases h2:o.Kind < 0∨o.Kind≥64
  ·rw [if_pos h2]; simp; omega
  ·rw [if_neg h2]
   cases h3:eG o with
   | true=>simp; omega
   | false=>simp
structure oM (l:List aw) (ops:List ab):Prop where
 one:∀ i:Nat,i < ops.length→dq (gi ops (i:Int))=0∧(gi ops (i:Int)).aI < l.length∧(gi ops (i:Int)).End < l.length
 two:∀ i j:Nat,i < j→j < ops.length→(gi ops (i:Int)).aI < (gi ops (j:Int)).aI∧((gi ops (i:Int)).End≠-1→(gi ops (i:Int)).End≠(gi ops (j:Int)).End)∧(gi ops (i:Int)).End≠(gi ops (j:Int)).aI∧(gi ops (i:Int)).aI≠(gi ops (j:Int)).End∧((gi ops (i:Int)).ak=(gi ops (j:Int)).ak→(gi ops (i:Int)).End≠-1∧(gi ops (i:Int)).End < (gi ops (j:Int)).aI)
 opn:∀ p,fJ l p=1→∃ j:Nat,j < ops.length∧(gi ops (j:Int)).ak=p∧(gi ops (j:Int)).End=-1
 shut:∀ p,fJ l p≠1→∀ j:Nat,j < ops.length→(gi ops (j:Int)).ak=p→(gi ops (j:Int)).End≠-1
def xP (l:List aw) (x:aw):Prop:=evE x=0∧((fJ l x.ak == 1) == (x.bo == 1))=false∧l.length < 10000
theorem EC {x:aw} (h:evE x=0) (hw:x.bo=1):x.N < 64:=by
 unfold evE at h
 split at h
 ·cases h
 split at h
 ·cases h
 split at h
 ·cases h
 ·rename_i h3; omega
theorem oe {l:List aw} {x:aw} (h:xP l x):(x.bo=1∧fJ l x.ak≠1)∨(x.bo=2∧fJ l x.ak=1):=by
 obtain ⟨h1,h2,_⟩:=h
 rcases (CH h1).1 with h | h
 ·left; refine ⟨h,fun hh=>?_⟩
  rw [h,hh] at h2; simp at h2
 ·right; refine ⟨h,?_⟩
  rw [h] at h2
  simpa using h2
theorem rB {l:List aw} {ops:List ab} {x:aw} (H:oM l ops) (hl:fJ l x.ak≠1) (k:Int):∀ i:Nat,i < ops.length→fU k x (gi ops (i:Int))=gi ops (i:Int):=fun i hi =>
 lC (fun hh=>H.shut _ hl i hi hh.2 hh.1)
theorem BQ {l:List aw} {ops:List ab} {x:aw} (H:oM l ops) (hx:xP l x):oM (l++[x]) (fA ops (l.length:Int) x):=by
 obtain ⟨e1,e2,e3,e4,e5⟩:=CH hx.1
 have hlen:=hx.2.2
 have MD:((l++[x]).length:Int)=l.length+1:=by simp
 have hf:∀ i:Nat,i < ops.length→0≤(gi ops (i:Int)).aI∧((gi ops (i:Int)).End=-1∨(gi ops (i:Int)).End > (gi ops (i:Int)).aI):=fun i hi=>fK (H.one i hi).1
 rcases oe hx with ⟨w,hl⟩ | ⟨w,hl⟩
 ·
  have hg:∀ i:Nat,i < ops.length→gi (fA ops (l.length:Int) x) (i:Int)=gi ops (i:Int):=fun i hi=>by rw [zn hi,rB H hl _ i hi]
  have hn:=Hl (ops:=ops) (k:=(l.length:Int)) w
  have hL:(fA ops (l.length:Int) x).length=ops.length+1:=by rw [qy,if_pos w]
  have hk:=EC hx.1 w
  refine ⟨fun i hi=>?_,fun i j xK hj=>?_,fun p hp=>?_,fun p hp j hj wH=>?_⟩
  ·by_cases e:i=ops.length
   ·subst e
    rw [hn,MD]
    refine ⟨(ph _).2 ⟨e2,e3,by dsimp only; omega,by dsimp only; omega,e4,hk,rfl⟩,by dsimp only; omega,by dsimp only; omega⟩
   ·rw [hg i (by omega),MD]
    obtain ⟨a,b,c⟩:=H.one i (by omega)
    exact ⟨a,by omega,by omega⟩
  ·rw [hg i (by omega)]
   by_cases e:j=ops.length
   ·subst e
    rw [hn]
    obtain ⟨a,b,c⟩:=H.one i (by omega)
    have:=hf i (by omega)
    refine ⟨b,fun h=>h,by dsimp only; omega,by dsimp only; omega,fun wH=>⟨H.shut _ hl i (by omega) wH,c⟩⟩
   ·rw [hg j (by omega)]
    exact H.two i j xK (by omega)
  ·rw [gy] at hp
   by_cases e:x.ak=p
   ·exact ⟨ops.length,by omega,by rw [hn]; exact e,by rw [hn]⟩
   ·rw [if_neg e] at hp
    obtain ⟨j,hj,a,b⟩:=H.opn p hp
    exact ⟨j,by omega,by rw [hg j hj]; exact a,by rw [hg j hj]; exact b⟩
  ·rw [gy] at hp
   by_cases e:x.ak=p
   ·rw [if_pos e] at hp; exact absurd w hp
   ·rw [if_neg e] at hp
    by_cases ej:j=ops.length
    ·subst ej; rw [hn] at wH; exact absurd wH e
    ·rw [hg j (by omega)] at wH ⊢
     exact H.shut p hp j (by omega) wH
 ·
  have hL:(fA ops (l.length:Int) x).length=ops.length:=by rw [qy,if_neg (by omega)]; rfl
  have hg:∀ i:Nat,i < ops.length→gi (fA ops (l.length:Int) x) (i:Int)=fU (l.length:Int) x (gi ops (i:Int)):=fun i hi=>zn hi
  have hE:∀ i:Nat,(fU (l.length:Int) x (gi ops (i:Int))).End=if (gi ops (i:Int)).End=-1∧(gi ops (i:Int)).ak=x.ak then (l.length:Int) else (gi ops (i:Int)).End:=fun i=>by unfold fU; split <;> rfl
  have hs:=fun i:Nat=>xS (l.length:Int) x (gi ops (i:Int))
  have H1:=H.one; have H2:=H.two
  refine ⟨fun i hi=>?_,fun i j xK hj=>?_,fun p hp=>?_,fun p hp j hj wH=>?_⟩
  ·obtain ⟨a,b,c⟩:=H1 i (by omega)
   rw [hg i (by omega),MD]
   by_cases e:(gi ops (i:Int)).End=-1∧(gi ops (i:Int)).ak=x.ak
   ·rw [pb e]
    obtain ⟨a1,a2,a3,a4,a5,a6,a7⟩:=(ph _).1 a
    refine ⟨(ph _).2 ⟨a1,a2,a3,a4,a5,a6,?_⟩,by dsimp only; omega,by dsimp only; omega⟩
    unfold eG
    dsimp only
    rw [if_neg (by omega)]
    simp only [Bool.and_eq_true,decide_eq_true_eq]
    omega
   ·rw [lC e]; exact ⟨a,by omega,by omega⟩
  ·rw [hg i (by omega),hg j (by omega)]
   obtain ⟨a1,b1,c1⟩:=H1 i (by omega)
   obtain ⟨a2,b2,c2⟩:=H1 j (by omega)
   obtain ⟨t1,t2,t3,t4,t5⟩:=H2 i j xK (by omega)
   have f1:=hf i (by omega)
   have f2:=hf j (by omega)
   rw [hE i,hE j,(hs i).2.2,(hs j).2.2,(hs i).1,(hs j).1]
   by_cases ei:(gi ops (i:Int)).End=-1∧(gi ops (i:Int)).ak=x.ak
   ·rw [if_pos ei]
    have hne:(gi ops (j:Int)).ak≠x.ak:=fun h=>(t5 (by rw [ei.2,h])).1 ei.1
    rw [if_neg (fun h=>hne h.2)]
    exact ⟨t1,fun _=>by omega,by omega,by omega,fun h=>absurd (h.symm.trans ei.2) hne⟩
   ·rw [if_neg ei]
    by_cases ej:(gi ops (j:Int)).End=-1∧(gi ops (j:Int)).ak=x.ak
    ·rw [if_pos ej]
     exact ⟨t1,fun _=>by omega,t3,by omega,t5⟩
    ·rw [if_neg ej]
     exact ⟨t1,t2,t3,t4,t5⟩
  ·rw [gy] at hp
   by_cases e:x.ak=p
   ·rw [if_pos e] at hp; omega
   ·rw [if_neg e] at hp
    obtain ⟨j,hj,a,b⟩:=H.opn p hp
    have:fU (l.length:Int) x (gi ops (j:Int))=gi ops (j:Int):=lC (fun h=>e (h.2.symm.trans a))
    exact ⟨j,by omega,by rw [hg j (by omega),this]; exact a,by rw [hg j (by omega),this]; exact b⟩
  ·rw [hg j (by omega),(hs j).1] at wH
   rw [hg j (by omega),hE j]
   rw [gy] at hp
   have f1:=hf j (by omega)
   by_cases e:x.ak=p
   ·split
    ·omega
    ·rename_i hh
     exact fun h=>hh ⟨h,by rw [wH,e]⟩
   ·rw [if_neg e] at hp
    have:=H.shut p hp j (by omega) wH
    rw [if_neg (fun h=>this h.1)]; exact this
theorem Eb:oM [] []:=⟨fun i h=>by simp at h,fun i j _ h=>by simp at h,fun p h=>by simp [fJ] at h,fun p _ j h=>by simp at h⟩
theorem uk {l:List aw} (h:(bV l).2=0) {k:Nat} (hk:k < l.length):xP (l.take k) (gi l (k:Int)):=by
 obtain ⟨h1,h2⟩:=uj h
 obtain ⟨a,b⟩:=h2 (k:Int) (by omega) (by omega)
 rw [show ((k:Nat):Int).toNat=k by omega] at b
 exact ⟨a,b,by rw [List.length_take]; omega⟩
theorem se {l:List aw} {k:Nat} (hk:k < l.length):l.take (k+1)=l.take k++[gi l (k:Int)]:=by
 have:=lG (l:=l) (i:=(k:Int)) (by omega) (by omega)
 rwa [show ((k:Int)+1).toNat=k+1 by omega,show ((k:Nat):Int).toNat=k by omega] at this
theorem xp {l:List aw} (h:(bV l).2=0):∀ k:Nat,k≤l.length→oM (l.take k) (opsOf (l.take k))
 | 0,_=>by rw [List.take_zero]; exact Eb
 | k+1,hk=>by
  rw [se hk,nE]
  exact BQ (xp h k (by omega)) (uk h hk)
theorem v3 {l:List ab} (h5:l.length≤5000) (h1:∀ i:Nat,i < l.length→dq (gi l (i:Int))=0) (h2:∀ i j:Nat,i < j→j < l.length→(gi l (i:Int)).aI < (gi l (j:Int)).aI∧kS (gi l (i:Int)) (gi l (j:Int))=false∧((gi l (i:Int)).ak=(gi l (j:Int)).ak→bl (gi l (i:Int)) (gi l (j:Int))=true)) :
  ∀ (f:Nat) (u:List (Int × Int)) (la:List (Int × ab)) (i:Nat),i+f=l.length→tn l u i→tX l la i→(en l f u la i).2=0
 | 0,u,la,i,_,_,_=>rfl
 | f+1,u,la,i,hi,hu,Hg=>by
  have hp:xl l i:=fun k hk=>⟨h1 k (by omega),fun j hj=>⟨(h2 j k hj (by omega)).1,(h2 j k hj (by omega)).2.2⟩⟩
  rw [en,if_neg (by rw [h1 i (by omega)]; simp),if_neg,if_neg]
  ·exact v3 h5 h1 h2 f _ _ (i+1) (by omega) (zM hu (by omega)) (Aj Hg)
  ·rw [z8 Hg hp]
   rintro ⟨k,hk,a,b⟩
   rw [(h2 k i hk (by omega)).2.2 a] at b; cases b
  ·rw [z9 hu hp (h1 i (by omega))]
   rintro ⟨k,hk,a | a⟩
   ·have:=(h2 k i hk (by omega)).1; omega
   ·rw [(h2 k i hk (by omega)).2.1] at a; cases a
theorem zO {l:List aw} {ops:List ab} {x:aw} (H:oM l ops) (hl:fJ l x.ak≠1) (w:x.bo=1) (k:Int):fA ops k x=ops++[⟨x.ak,x.N,k,-1,-1⟩]:=by
 unfold fA
 rw [if_pos w]
 congr 1
 apply List.ext_getElem (by simp)
 intro i h1 h2
 rw [List.getElem_map]
 have:=rB H hl k i h2
 rw [bZ _ _ h2] at this
 exact this
theorem step_ret {l:List aw} {ops:List ab} {x:aw} (H:oM l ops) (w:x.bo≠1) {j:Nat} (hj:j < ops.length) (hp:(gi ops (j:Int)).ak=x.ak) (he:(gi ops (j:Int)).End=-1) (k:Int):fA ops k x=ops.set j ⟨(gi ops (j:Int)).ak,(gi ops (j:Int)).Kind,(gi ops (j:Int)).aI,k,x.N⟩:=by
 unfold fA
 rw [if_neg w,List.append_nil]
 apply List.ext_getElem (by simp)
 intro i h1 h2
 have h2:i < ops.length:=by simpa using h2
 rw [List.getElem_map,List.getElem_set]
 have e:=bZ ops i h2
 by_cases ij:j=i
 ·subst ij
  rw [if_pos rfl,← e,pb ⟨he,hp⟩]
 ·rw [if_neg ij,← e,lC]
  rintro ⟨h3,h4⟩
  rcases Nat.lt_or_gt_of_ne ij with h | h
  ·exact ((H.two j i h h2).2.2.2.2 (by rw [hp,h4])).1 he
  ·exact ((H.two i j h hj).2.2.2.2 (by rw [hp,h4])).1 h3
def Gy (l:List aw) (ops:List ab) (m:List (Int × Int)):Prop:=∀ p,fJ l p=1→∃ j:Nat,(aF m p).getD 0=(j:Int)∧j < ops.length∧(gi ops (j:Int)).ak=p∧(gi ops (j:Int)).End=-1
theorem pJ {α:Type} [Inhabited α] {l:List α} {j:Nat} {a:α} (h:j < l.length):gi (l.set j a) (j:Int)=a:=by
 rw [bZ _ _ (by simpa using h)]; simp
theorem lS {α:Type} [Inhabited α] {l:List α} {i j:Nat} {a:α} (h:i < l.length) (hne:j≠i):gi (l.set j a) (i:Int)=gi l (i:Int):=by
 rw [bZ _ _ (by simpa using h),bZ _ _ h,List.getElem_set_ne hne]
theorem v56 (l:List aw):VC56 l (fun r=>r=gL l):=by
 intro DA
 rintro _ rfl
 unfold gL
 refine ⟨fun h=>by rw [if_pos (by simpa using h)],fun h=>?_⟩
 have h:(bV l).2=0:=by simpa using h
 rw [if_neg (by omega)]
 have h10:=(uj h).1
 refine ⟨fun out m x=>∃ k:Nat,x=(k:Int)∧k≤l.length∧out=opsOf (l.take k)∧Gy (l.take k) out m,fun _ _ x=>(l.length - x).toNat,⟨0,rfl,by omega,rfl,fun p hp=>by simp [fJ] at hp⟩,?_⟩
 rintro out m _ ⟨k,rfl,hk,rfl,wI⟩
 refine ⟨fun hi=>?_,fun hi=>?_⟩
 ·have hi:=of_decide_eq_true hi
  have hk:k < l.length:=by omega
  have H:=xp h k (by omega)
  have hx:=uk h hk
  have HV:=se hk
  have Am:((l.take k).length:Int)=(k:Int):=by rw [List.length_take]; omega
  have As:=pc (l.take k)
  have DC:(opsOf (l.take k)).length≤10000:=by
   have:lf (l.take k)≤k:=by
    unfold lf
    have:=List.countP_le_length (p:=fun x:aw=>x.bo == 1) (l:=l.take k)
    omega
   omega
  have yV:=nE (l.take k) (gi l (k:Int))
  rw [Am] at yV
  refine ⟨⟨by omega,hi⟩,fun w=>⟨by simp; omega,?_⟩,fun w=>?_⟩
  ·have w:(gi l (k:Int)).bo=1:=by simpa using w
   rcases oe hx with ⟨_,hl⟩ | ⟨w2,_⟩
   ·unfold VC56_J2
    rw [wrp (by omega) (by omega)]
    refine ⟨⟨k+1,by push_cast; rfl,by omega,?_,?_⟩,by first | omega | (dsimp only; omega)⟩
    ·rw [HV,yV,zO H hl w]
    ·rw [HV]
     intro p hp
     rw [gy] at hp
     by_cases e:p=(gi l (k:Int)).ak
     ·subst e
      refine ⟨(opsOf (l.take k)).length,by rw [fm,if_pos rfl]; rfl,by simp,?_,?_⟩ <;> rw [bZ _ _ (by simp)] <;> simp
     ·rw [if_neg (fun hh=>e hh.symm)] at hp
      obtain ⟨j,j1,j2,j3,j4⟩:=wI p hp
      have eg:gi (opsOf (l.take k)++[(⟨(gi l (k:Int)).ak,(gi l (k:Int)).N,(k:Int),-1,-1⟩:ab)]) (j:Int)=gi (opsOf (l.take k)) (j:Int):=Hm (by omega) (by omega)
      exact ⟨j,by rw [fm,if_neg e]; exact j1,by simp; omega,by rw [eg]; exact j3,by rw [eg]; exact j4⟩
   ·omega
  ·have w:(gi l (k:Int)).bo≠1:=by simpa using w
   rcases oe hx with ⟨w2,_⟩ | ⟨w2,hl⟩
   ·omega
   ·obtain ⟨j,j1,j2,j3,j4⟩:=wI _ hl
    rw [j1]
    refine ⟨⟨by omega,by omega⟩,?_⟩
    unfold VC56_J2
    rw [wrp (by omega) (by omega)]
    rw [show ((j:Nat):Int).toNat=j by omega,pJ j2,List.set_set]
    refine ⟨⟨k+1,by push_cast; rfl,by omega,?_,?_⟩,by first | omega | (dsimp only; omega)⟩
    ·rw [HV,yV,step_ret H w j2 j3 j4]
    ·rw [HV]
     intro p hp
     rw [gy] at hp
     by_cases e:p=(gi l (k:Int)).ak
     ·subst e; rw [if_pos rfl] at hp; omega
     ·rw [if_neg (fun hh=>e hh.symm)] at hp
      obtain ⟨q,q1,q2,q3,q4⟩:=wI p hp
      have hne:j≠q:=by rintro rfl; exact e (q3.symm.trans j3)
      exact ⟨q,q1,by simpa using q2,by rw [lS q2 hne]; exact q3,by rw [lS q2 hne]; exact q4⟩
 ·have hi:=of_decide_eq_false hi
  unfold VC56_J1
  rw [List.take_of_length_le (by omega)]
theorem v92 (s:List Int) (v:Int):VC92 s v (fun r=>r=ew s v):=by
 intro hs
 simp only [sm] at hs
 unfold ew
 refine ⟨fun x=>∃ k:Nat,x=(k:Int)∧k≤s.length∧pH v (s.drop k) (k:Int)=pH v s 0,fun x=>(s.length - x).toNat,⟨0,rfl,by omega,rfl⟩,?_⟩
 rintro _ ⟨k,rfl,hk,hg⟩
 refine ⟨fun h=>?_,fun h=>?_⟩
 ·have h:=of_decide_eq_true h
  rw [hX (l:=s) (i:=k) (by omega),pH] at hg
  refine ⟨⟨by omega,h⟩,fun h2=>?_,fun h2=>?_⟩
  ·rw [if_pos (by simpa using h2)] at hg; exact hg
  ·rw [if_neg (by simpa using h2)] at hg
   rw [wrp (by omega) (by omega)]
   exact ⟨⟨k+1,by push_cast; rfl,by omega,by push_cast; exact hg⟩,by first | omega | (dsimp only; omega)⟩
 ·have h:=of_decide_eq_false h
  rw [List.drop_eq_nil_of_le (by omega)] at hg
  exact hg
theorem yR (v:Int):∀ (s:List Int) (i:Int),0≤i→(pH v s i≥0↔v∈s)
 | [],i,_=>by simp [pH]
 | y :: s,i,h=>by
  rw [pH]
  by_cases e:v=y
  ·subst e; rw [if_pos rfl]; simp; omega
  ·rw [if_neg e,yR v s (i+1) (by omega)]; simp [e]
theorem v77 (s:List Int) (v:Int):VC77 s v (fun r=>r=cC s v):=by
 intro _
 rintro _ rfl
 exact decide_eq_decide.2 (yR v s 0 (by omega))
theorem v49 (s:List bb) (hp:yF s):VC49 s (fun r=>r=de s):=by
 have hl:s.length≤1000000:=hp
 intro _ b hb
 exact ⟨fun h=>(hb h).symm,fun _=>⟨by simp; omega,rfl⟩⟩
def fwd (p:Int):List aw→Int→Int × Int
 | [],_=>(-1,-1)
 | x :: r,k=>if x.ak=p then (k,x.N) else fwd p r (k+1)
def n8:List aw→Int→List ab
 | [],_=>[]
 | x :: r,i=>(if x.bo=1 then [⟨x.ak,x.N,i,(fwd x.ak r (i+1)).1,(fwd x.ak r (i+1)).2⟩] else [])++n8 r (i+1)
def finish (l:List aw) (i:Int) (o:ab):ab:=if o.End=-1∧(fwd o.ak l i).1≠-1 then ⟨o.ak,o.Kind,o.aI,(fwd o.ak l i).1,(fwd o.ak l i).2⟩ else o
theorem vM (p:Int):∀ (l:List aw) (k:Int),0≤k→(fwd p l k).1=-1→(fwd p l k).2=-1
 | [],_,_,_=>rfl
 | x :: l,k,h,e=>by
  rw [fwd] at e ⊢
  split at e
  ·dsimp only at e; omega
  ·rename_i hh; rw [if_neg hh]; exact vM p l (k+1) (by omega) e
theorem ug {l:List aw} {x:aw} {i:Int} (h:0≤i) (o:ab):finish l (i+1) (fU i x o)=finish (x :: l) i o:=by
 by_cases e:o.End=-1
 ·by_cases p:o.ak=x.ak
  ·rw [pb ⟨e,p⟩]
   unfold finish
   rw [if_neg (by dsimp only; omega),if_pos]
   ·rw [fwd,if_pos p.symm]
   ·rw [fwd,if_pos p.symm]; exact ⟨e,by dsimp only; omega⟩
  ·rw [lC (fun h=>p h.2)]
   have e2:fwd o.ak (x :: l) i=fwd o.ak l (i+1):=by rw [fwd,if_neg (fun h=>p h.symm)]
   unfold finish
   rw [e2]
 ·rw [lC (fun h=>e h.1)]
  unfold finish
  rw [if_neg (fun h=>e h.1),if_neg (fun h=>e h.1)]
theorem sG:∀ (l:List aw) (i:Int) (ops:List ab),0≤i→l7 l i ops=ops.map (finish l i)++n8 l i
 | [],i,ops,_=>by
  have:∀ o:ab,finish [] i o=o:=fun o=>by unfold finish; rw [if_neg (fun h=>h.2 rfl)]
  rw [l7,n8,List.append_nil,show finish [] i=id from funext this,List.map_id]
 | x :: l,i,ops,h=>by
  rw [l7,sG l (i+1) _ (by omega),n8,← List.append_assoc]
  congr 1
  unfold fA
  rw [List.map_append,List.map_map]
  congr 1
  ·exact List.map_congr_left (fun o _=>ug h o)
  ·split
   ·rw [List.map_cons,List.map_nil]
    congr 1
    unfold finish
    dsimp only
    by_cases e:(fwd x.ak l (i+1)).1=-1
    ·rw [if_neg (fun h=>h.2 e),e,vM _ _ _ (by omega) e]
    ·rw [if_pos ⟨rfl,e⟩]
   ·rfl
theorem Ea (l:List aw):opsOf l=n8 l 0:=by
 unfold opsOf; rw [sG l 0 [] (by omega)]; rfl
theorem v18 (l:List aw):VC18 l (fun r=>r=iS l):=by
 intro _
 rintro _ rfl
 unfold iS gL e6
 refine ⟨fun h=>by rw [if_pos (by simpa using h)],fun h=>?_⟩
 have h:(bV l).2=0:=by simpa using h
 rw [if_neg (by omega),Ea]
 have h10:=(uj h).1
 generalize hR:n8 l 0=R
 refine ⟨fun out i=>∃ k:Nat,i=(k:Int)∧k≤l.length∧out.length≤k∧out++n8 (l.drop k) (k:Int)=R,fun _ i=>(l.length - i).toNat,⟨0,rfl,by omega,by simp,hR⟩,?_⟩
 rintro out _ ⟨k,rfl,hk,ho,hg⟩
 refine ⟨fun hi=>?_,fun hi=>?_⟩
 ·have hi:=of_decide_eq_true hi
  have hI:(0:Int)≤(k:Int)∧(k:Int) < (l.length:Int):=⟨by omega,hi⟩
  rw [hX (l:=l) (i:=k) (by omega),n8,← List.append_assoc] at hg
  refine ⟨hI,fun w=>?_,fun w=>⟨hI,hI,?_⟩⟩
  ·unfold VC18_J2
   rw [if_neg (by simpa using w),List.append_nil] at hg
   rw [wrp (by omega) (by omega)]
   exact ⟨⟨k+1,by push_cast; rfl,by omega,by omega,by push_cast; exact hg⟩,by first | omega | (dsimp only; omega)⟩
  ·rw [if_pos (by simpa using w)] at hg
   generalize hF:fwd (gi l (k:Int)).ak (l.drop (k+1)) ((k:Int)+1)=F at hg
   rw [wrp (by omega) (by omega)]
   refine ⟨fun Ln q a b d e r=>out=Ln∧a=(gi l (k:Int)).ak∧b=(gi l (k:Int)).N∧d=(k:Int)∧∃ q':Nat,q=(q':Int)∧q'≤l.length∧((e=-1∧r=-1∧fwd (gi l (k:Int)).ak (l.drop q') (q':Int)=F)∨(e≥0∧(e,r)=F)),fun _ q _ _ _ _ _=>(l.length - q).toNat,⟨rfl,rfl,rfl,rfl,k+1,by push_cast; rfl,by omega,.inl ⟨rfl,rfl,by push_cast; exact hF⟩⟩,?_⟩
   rintro _ _ _ _ _ e r ⟨rfl,rfl,rfl,rfl,q,rfl,hq,kp⟩
   refine ⟨fun h2=>?_,fun h2=>?_⟩
   ·rw [Bool.and_eq_true,decide_eq_true_eq,decide_eq_true_eq] at h2
    have hQ:(0:Int)≤(q:Int)∧(q:Int) < (l.length:Int):=⟨by omega,h2.1⟩
    rcases kp with ⟨rfl,rfl,hf⟩ | ⟨h3,_⟩
    ·rw [hX (l:=l) (i:=q) (by omega),fwd] at hf
     refine ⟨hQ,hI,fun h4=>⟨hQ,?_⟩,fun h4=>?_⟩
     ·rw [if_pos (by simpa using h4)] at hf
      unfold VC18_J4
      rw [wrp (by omega) (by omega)]
      exact ⟨⟨rfl,rfl,rfl,rfl,q+1,by push_cast; rfl,by omega,.inr ⟨by omega,hf⟩⟩,by first | omega | (dsimp only; omega)⟩
     ·rw [if_neg (by simpa using h4)] at hf
      unfold VC18_J4
      rw [wrp (by omega) (by omega)]
      exact ⟨⟨rfl,rfl,rfl,rfl,q+1,by push_cast; rfl,by omega,.inl ⟨rfl,rfl,by push_cast; exact hf⟩⟩,by first | omega | (dsimp only; omega)⟩
    ·omega
   ·have Rc:(e,r)=F:=by
     rcases kp with ⟨rfl,rfl,hf⟩ | ⟨_,h3⟩
     ·rw [Bool.and_eq_false_iff,decide_eq_false_iff_not,decide_eq_false_iff_not] at h2
      rw [List.drop_eq_nil_of_le (by omega)] at hf
      exact hf
     ·exact h3
    unfold VC18_J3 VC18_J2
    rw [wrp (by omega) (by omega)]
    rw [← Rc] at hg
    exact ⟨by simp; omega,⟨k+1,by push_cast; rfl,by omega,by simp; omega,by push_cast; exact hg⟩,by first | omega | (dsimp only; omega)⟩
 ·have hi:=of_decide_eq_false hi
  unfold VC18_J1
  rw [List.drop_eq_nil_of_le (by omega),n8,List.append_nil] at hg
  rw [hg]
end Go.Proofs.YteahldlmkheleaaGreat
