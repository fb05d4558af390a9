/- The operations of a history. -/
import Derived.Test.YteahldlmkheleaaGreatLV13
import Derived.Test.YteahldlmkheleaaGreatLV11
set_option linter.all false
namespace Go.Proofs.YteahldlmkheleaaGreat
open Go Go.Sv Go.Pu
theorem sS:∀ (a b:List aw) (i:Int) (ops:List ab),l5 (a++b) i ops=l5 b (i+a.length) (l5 a i ops)
 | [],b,i,ops=>by simp [l5]
 | x :: a,b,i,ops=>by
  rw [List.cons_append,l5,sS a b,l5]
  congr 1
  simp only [List.length_cons]; push_cast; omega
theorem nH (l:List aw) (x:aw):opsOf (l++[x])=fE (opsOf l) (l.length:Int) x:=by
 unfold opsOf
 rw [sS]
 simp [l5]
theorem yh (k:Int) (x:aw) (o:ab):(ga k x o).ah=o.ah∧(ga k x o).Kind=o.Kind∧(ga k x o).aG=o.aG:=by
 unfold ga; split <;> exact ⟨rfl,rfl,rfl⟩
theorem lC {k:Int} {x:aw} {o:ab} (h:¬ (o.End=-1∧o.ah=x.ah)):ga k x o=o:=by
 unfold ga; rw [if_neg h]
theorem pq {k:Int} {x:aw} {o:ab} (h:o.End=-1∧o.ah=x.ah):ga k x o=⟨o.ah,o.Kind,o.aG,k,x.N⟩:=by
 unfold ga; rw [if_pos h]
theorem zH {ops:List ab} {k:Int} {x:aw} {i:Nat} (h:i < ops.length):gi (fE ops k x) (i:Int)=ga k x (gi ops (i:Int)):=by
 unfold fE
 rw [cq _ _ (by rw [List.length_append,List.length_map]; omega),cq _ _ h,List.getElem_append_left (by rw [List.length_map]; exact h),List.getElem_map]
theorem G3 {ops:List ab} {k:Int} {x:aw} (h:x.bm=1):gi (fE ops k x) (ops.length:Int)=⟨x.ah,x.N,k,-1,-1⟩:=by
 unfold fE
 rw [if_pos h,cq _ _ (by simp)]
 rw [List.getElem_append_right (by simp)]
 simp
theorem qx (ops:List ab) (k:Int) (x:aw):(fE ops k x).length=ops.length+(if x.bm=1 then 1 else 0):=by
 unfold fE
 rw [List.length_append,List.length_map]
 split <;> simp
theorem yi (l:List aw) (x:aw):lf (l++[x])=lf l+(if x.bm=1 then 1 else 0):=by
 unfold lf
 rw [List.countP_append]
 by_cases h:x.bm=1
 ·simp [h]
 ·simp [h]
theorem u9 {α:Type} {P:List α→Prop} (h0:P []) (h1:∀ l x,P l→P (l++[x])) (l:List α):P l:=by
 rw [← List.reverse_reverse l]
 generalize l.reverse=r
 induction r with
 | nil=>exact h0
 | cons x r ih=>rw [List.reverse_cons]; exact h1 _ _ ih
theorem pt (l:List aw):((opsOf l).length:Int)=lf l:=by
 refine u9 (P:=fun l=>((opsOf l).length:Int)=lf l) rfl (fun l x ih=>?_) l
 rw [nH,yi,qx,← ih]; push_cast; split <;> rfl
theorem py (o:ab):dk o=0↔1≤o.ah∧o.ah≤1000∧0≤o.aG∧o.aG≤9999∧0≤o.Kind∧o.Kind < 64∧eu o=true:=by
 unfold dk
 by_cases h1:o.ah < 1∨o.ah > 1000∨o.aG < 0∨o.aG > 9999
 ·rw [if_pos h1]; simp; omega
 ·rw [if_neg h1]
  by_cases h2:o.Kind < 0∨o.Kind≥64
  ·rw [if_pos h2]; simp; omega
  ·rw [if_neg h2]
   cases h3:eu o with
   | true=>simp; omega
   | false=>simp
structure nv (l:List aw) (ops:List ab):Prop where
 one:∀ i:Nat,i < ops.length→dk (gi ops (i:Int))=0∧(gi ops (i:Int)).aG < l.length∧(gi ops (i:Int)).End < l.length
 two:∀ i j:Nat,i < j→j < ops.length→(gi ops (i:Int)).aG < (gi ops (j:Int)).aG∧((gi ops (i:Int)).End≠-1→(gi ops (i:Int)).End≠(gi ops (j:Int)).End)∧(gi ops (i:Int)).End≠(gi ops (j:Int)).aG∧(gi ops (i:Int)).aG≠(gi ops (j:Int)).End∧((gi ops (i:Int)).ah=(gi ops (j:Int)).ah→(gi ops (i:Int)).End≠-1∧(gi ops (i:Int)).End < (gi ops (j:Int)).aG)
 opn:∀ p,eA l p=1→∃ j:Nat,j < ops.length∧(gi ops (j:Int)).ah=p∧(gi ops (j:Int)).End=-1
 shut:∀ p,eA l p≠1→∀ j:Nat,j < ops.length→(gi ops (j:Int)).ah=p→(gi ops (j:Int)).End≠-1
def rB (l:List aw) (x:aw):Prop:=evE x=0∧((eA l x.ah == 1) == (x.bm == 1))=false∧l.length < 10000
theorem Es {x:aw} (h:evE x=0) (hw:x.bm=1):x.N < 64:=by
 unfold evE at h
 split at h
 ·cases h
 split at h
 ·cases h
 split at h
 ·cases h
 ·rename_i h3; omega
theorem ka {l:List aw} {x:aw} (h:rB l x):(x.bm=1∧eA l x.ah≠1)∨(x.bm=2∧eA l x.ah=1):=by
 obtain ⟨h1,h2,_⟩:=h
 rcases (CL h1).1 with h | h
 ·left; refine ⟨h,fun hh=>?_⟩
  rw [h,hh] at h2; simp at h2
 ·right; refine ⟨h,?_⟩
  rw [h] at h2
  simpa using h2
theorem rD {l:List aw} {ops:List ab} {x:aw} (H:nv l ops) (hl:eA l x.ah≠1) (k:Int):∀ i:Nat,i < ops.length→ga k x (gi ops (i:Int))=gi ops (i:Int):=fun i hi =>
 lC (fun hh=>H.shut _ hl i hi hh.2 hh.1)
theorem BW {l:List aw} {ops:List ab} {x:aw} (H:nv l ops) (hx:rB l x):nv (l++[x]) (fE ops (l.length:Int) x):=by
 obtain ⟨e1,e2,e3,e4,e5⟩:=CL hx.1
 have hlen:=hx.2.2
 have L5:((l++[x]).length:Int)=l.length+1:=by simp
 have hf:∀ i:Nat,i < ops.length→0≤(gi ops (i:Int)).aG∧((gi ops (i:Int)).End=-1∨(gi ops (i:Int)).End > (gi ops (i:Int)).aG):=fun i hi=>eI (H.one i hi).1
 rcases ka hx with ⟨w,hl⟩ | ⟨w,hl⟩
 ·
  have hg:∀ i:Nat,i < ops.length→gi (fE ops (l.length:Int) x) (i:Int)=gi ops (i:Int):=fun i hi=>by rw [zH hi,rD H hl _ i hi]
  have hn:=G3 (ops:=ops) (k:=(l.length:Int)) w
  have hL:(fE ops (l.length:Int) x).length=ops.length+1:=by rw [qx,if_pos w]
  have hk:=Es hx.1 w
  refine ⟨fun i hi=>?_,fun i j w7 hj=>?_,fun p hp=>?_,fun p hp j hj wZ=>?_⟩
  ·by_cases e:i=ops.length
   ·subst e
    rw [hn,L5]
    refine ⟨(py _).2 ⟨e2,e3,by dsimp only; omega,by dsimp only; omega,e4,hk,rfl⟩,by dsimp only; omega,by dsimp only; omega⟩
   ·rw [hg i (by omega),L5]
    obtain ⟨a,b,c⟩:=H.one i (by omega)
    exact ⟨a,by omega,by omega⟩
  ·rw [hg i (by omega)]
   by_cases e:j=ops.length
   ·subst e
    rw [hn]
    obtain ⟨a,b,c⟩:=H.one i (by omega)
    have:=hf i (by omega)
    refine ⟨b,fun h=>h,by dsimp only; omega,by dsimp only; omega,fun wZ=>⟨H.shut _ hl i (by omega) wZ,c⟩⟩
   ·rw [hg j (by omega)]
    exact H.two i j w7 (by omega)
  ·rw [fk] at hp
   by_cases e:x.ah=p
   ·exact ⟨ops.length,by omega,by rw [hn]; exact e,by rw [hn]⟩
   ·rw [if_neg e] at hp
    obtain ⟨j,hj,a,b⟩:=H.opn p hp
    exact ⟨j,by omega,by rw [hg j hj]; exact a,by rw [hg j hj]; exact b⟩
  ·rw [fk] at hp
   by_cases e:x.ah=p
   ·rw [if_pos e] at hp; exact absurd w hp
   ·rw [if_neg e] at hp
    by_cases ej:j=ops.length
    ·subst ej; rw [hn] at wZ; exact absurd wZ e
    ·rw [hg j (by omega)] at wZ ⊢
     exact H.shut p hp j (by omega) wZ
 ·
  have hL:(fE ops (l.length:Int) x).length=ops.length:=by rw [qx,if_neg (by omega)]; rfl
  have hg:∀ i:Nat,i < ops.length→gi (fE ops (l.length:Int) x) (i:Int)=ga (l.length:Int) x (gi ops (i:Int)):=fun i hi=>zH hi
  have hE:∀ i:Nat,(ga (l.length:Int) x (gi ops (i:Int))).End=if (gi ops (i:Int)).End=-1∧(gi ops (i:Int)).ah=x.ah then (l.length:Int) else (gi ops (i:Int)).End:=fun i=>by unfold ga; split <;> rfl
  have hs:=fun i:Nat=>yh (l.length:Int) x (gi ops (i:Int))
  have H1:=H.one; have H2:=H.two
  refine ⟨fun i hi=>?_,fun i j w7 hj=>?_,fun p hp=>?_,fun p hp j hj wZ=>?_⟩
  ·obtain ⟨a,b,c⟩:=H1 i (by omega)
   rw [hg i (by omega),L5]
   by_cases e:(gi ops (i:Int)).End=-1∧(gi ops (i:Int)).ah=x.ah
   ·rw [pq e]
    obtain ⟨a1,a2,a3,a4,a5,a6,a7⟩:=(py _).1 a
    refine ⟨(py _).2 ⟨a1,a2,a3,a4,a5,a6,?_⟩,by dsimp only; omega,by dsimp only; omega⟩
    unfold eu
    dsimp only
    rw [if_neg (by omega)]
    simp only [Bool.and_eq_true,decide_eq_true_eq]
    omega
   ·rw [lC e]; exact ⟨a,by omega,by omega⟩
  ·rw [hg i (by omega),hg j (by omega)]
   obtain ⟨a1,b1,c1⟩:=H1 i (by omega)
   obtain ⟨a2,b2,c2⟩:=H1 j (by omega)
   obtain ⟨t1,t2,t3,t4,t5⟩:=H2 i j w7 (by omega)
   have f1:=hf i (by omega)
   have f2:=hf j (by omega)
   rw [hE i,hE j,(hs i).2.2,(hs j).2.2,(hs i).1,(hs j).1]
   by_cases ei:(gi ops (i:Int)).End=-1∧(gi ops (i:Int)).ah=x.ah
   ·rw [if_pos ei]
    have hne:(gi ops (j:Int)).ah≠x.ah:=fun h=>(t5 (by rw [ei.2,h])).1 ei.1
    rw [if_neg (fun h=>hne h.2)]
    exact ⟨t1,fun _=>by omega,by omega,by omega,fun h=>absurd (h.symm.trans ei.2) hne⟩
   ·rw [if_neg ei]
    by_cases ej:(gi ops (j:Int)).End=-1∧(gi ops (j:Int)).ah=x.ah
    ·rw [if_pos ej]
     exact ⟨t1,fun _=>by omega,t3,by omega,t5⟩
    ·rw [if_neg ej]
     exact ⟨t1,t2,t3,t4,t5⟩
  ·rw [fk] at hp
   by_cases e:x.ah=p
   ·rw [if_pos e] at hp; omega
   ·rw [if_neg e] at hp
    obtain ⟨j,hj,a,b⟩:=H.opn p hp
    have:ga (l.length:Int) x (gi ops (j:Int))=gi ops (j:Int):=lC (fun h=>e (h.2.symm.trans a))
    exact ⟨j,by omega,by rw [hg j (by omega),this]; exact a,by rw [hg j (by omega),this]; exact b⟩
  ·rw [hg j (by omega),(hs j).1] at wZ
   rw [hg j (by omega),hE j]
   rw [fk] at hp
   have f1:=hf j (by omega)
   by_cases e:x.ah=p
   ·split
    ·omega
    ·rename_i hh
     exact fun h=>hh ⟨h,by rw [wZ,e]⟩
   ·rw [if_neg e] at hp
    have:=H.shut p hp j (by omega) wZ
    rw [if_neg (fun h=>this h.1)]; exact this
theorem D4:nv [] []:=⟨fun i h=>by simp at h,fun i j _ h=>by simp at h,fun p h=>by simp [eA] at h,fun p _ j h=>by simp at h⟩
theorem qk {l:List aw} (h:(bE l).2=0) {k:Nat} (hk:k < l.length):rB (l.take k) (gi l (k:Int)):=by
 obtain ⟨h1,h2⟩:=rA h
 obtain ⟨a,b⟩:=h2 (k:Int) (by omega) (by omega)
 rw [show ((k:Nat):Int).toNat=k by omega] at b
 exact ⟨a,b,by rw [List.length_take]; omega⟩
theorem si {l:List aw} {k:Nat} (hk:k < l.length):l.take (k+1)=l.take k++[gi l (k:Int)]:=by
 have:=n9 (l:=l) (i:=(k:Int)) (by omega) (by omega)
 rwa [show ((k:Int)+1).toNat=k+1 by omega,show ((k:Nat):Int).toNat=k by omega] at this
theorem xN {l:List aw} (h:(bE l).2=0):∀ k:Nat,k≤l.length→nv (l.take k) (opsOf (l.take k))
 | 0,_=>by rw [List.take_zero]; exact D4
 | k+1,hk=>by
  rw [si hk,nH]
  exact BW (xN h k (by omega)) (qk h hk)
theorem rE {l:List ab} (h5:l.length≤5000) (h1:∀ i:Nat,i < l.length→dk (gi l (i:Int))=0) (h2:∀ i j:Nat,i < j→j < l.length→(gi l (i:Int)).aG < (gi l (j:Int)).aG∧kR (gi l (i:Int)) (gi l (j:Int))=false∧((gi l (i:Int)).ah=(gi l (j:Int)).ah→bf (gi l (i:Int)) (gi l (j:Int))=true)) :
  ∀ (f:Nat) (u:List (Int × Int)) (la:List (Int × ab)) (i:Nat),i+f=l.length→tx l u i→uh l la i→(dV l f u la i).2=0
 | 0,u,la,i,_,_,_=>rfl
 | f+1,u,la,i,hi,hu,NX=>by
  have hp:xI l i:=fun k hk=>⟨h1 k (by omega),fun j hj=>⟨(h2 j k hj (by omega)).1,(h2 j k hj (by omega)).2.2⟩⟩
  rw [dV,if_neg (by rw [h1 i (by omega)]; simp),if_neg,if_neg]
  ·exact rE h5 h1 h2 f _ _ (i+1) (by omega) (z7 hu (by omega)) (AD NX)
  ·rw [Aq NX hp]
   rintro ⟨k,hk,a,b⟩
   rw [(h2 k i hk (by omega)).2.2 a] at b; cases b
  ·rw [Ar hu hp (h1 i (by omega))]
   rintro ⟨k,hk,a | a⟩
   ·have:=(h2 k i hk (by omega)).1; omega
   ·rw [(h2 k i hk (by omega)).2.1] at a; cases a
theorem Au {l:List aw} {ops:List ab} (H:nv l ops) (h5:ops.length≤5000):(cn ops).2=0:=by
 unfold cn
 rw [if_neg (by omega)]
 refine rE h5 (fun i hi=>(H.one i hi).1) (fun i j w7 hj=>?_) _ _ _ 0 (by omega) (fun t=>⟨by simp [fy,aF],by simp [fy,aF],by simp [fy,aF]⟩) (fun p=>by simp [aF])
 obtain ⟨t1,t2,t3,t4,t5⟩:=H.two i j w7 hj
 refine ⟨t1,?_,fun hp=>?_⟩
 ·rw [← Bool.not_eq_true,lu]
  rintro (h | h | h | h)
  ·omega
  ·exact t3 h
  ·exact t4 h
  ·exact t2 h.2 h.1
 ·obtain ⟨a,b⟩:=t5 hp
  have:=eI (H.one i (by omega)).1
  unfold bf
  rw [Bool.and_eq_true,decide_eq_true_eq,decide_eq_true_eq]
  exact ⟨by omega,b⟩
theorem z9 {l:List aw} {ops:List ab} {x:aw} (H:nv l ops) (hl:eA l x.ah≠1) (w:x.bm=1) (k:Int):fE ops k x=ops++[⟨x.ah,x.N,k,-1,-1⟩]:=by
 unfold fE
 rw [if_pos w]
 congr 1
 apply List.ext_getElem (by simp)
 intro i h1 h2
 rw [List.getElem_map]
 have:=rD H hl k i h2
 rw [cq _ _ h2] at this
 exact this
theorem step_ret {l:List aw} {ops:List ab} {x:aw} (H:nv l ops) (w:x.bm≠1) {j:Nat} (hj:j < ops.length) (hp:(gi ops (j:Int)).ah=x.ah) (he:(gi ops (j:Int)).End=-1) (k:Int):fE ops k x=ops.set j ⟨(gi ops (j:Int)).ah,(gi ops (j:Int)).Kind,(gi ops (j:Int)).aG,k,x.N⟩:=by
 unfold fE
 rw [if_neg w,List.append_nil]
 apply List.ext_getElem (by simp)
 intro i h1 h2
 have h2:i < ops.length:=by simpa using h2
 rw [List.getElem_map,List.getElem_set]
 have e:=cq ops i h2
 by_cases ij:j=i
 ·subst ij
  rw [if_pos rfl,← e,pq ⟨he,hp⟩]
 ·rw [if_neg ij,← e,lC]
  rintro ⟨h3,h4⟩
  rcases Nat.lt_or_gt_of_ne ij with h | h
  ·exact ((H.two j i h h2).2.2.2.2 (by rw [hp,h4])).1 he
  ·exact ((H.two i j h hj).2.2.2.2 (by rw [hp,h4])).1 h3
def Gf (l:List aw) (ops:List ab) (m:List (Int × Int)):Prop:=∀ p,eA l p=1→∃ j:Nat,(aF m p).getD 0=(j:Int)∧j < ops.length∧(gi ops (j:Int)).ah=p∧(gi ops (j:Int)).End=-1
theorem vY {α:Type} [Inhabited α] {l:List α} {j:Nat} {a:α} (h:j < l.length):gi (l.set j a) (j:Int)=a:=by
 rw [cq _ _ (by simpa using h)]; simp
theorem oD {α:Type} [Inhabited α] {l:List α} {i j:Nat} {a:α} (h:i < l.length) (hne:j≠i):gi (l.set j a) (i:Int)=gi l (i:Int):=by
 rw [cq _ _ (by simpa using h),cq _ _ h,List.getElem_set_ne hne]
theorem v56 (l:List aw):VC56 l (fun r=>r=gT l):=by
 intro Du
 rintro _ rfl
 unfold gT
 refine ⟨fun h=>by rw [if_pos (by simpa using h)],fun h=>?_⟩
 have h:(bE l).2=0:=by simpa using h
 rw [if_neg (by omega)]
 have h10:=(rA h).1
 refine ⟨fun out m x=>∃ k:Nat,x=(k:Int)∧k≤l.length∧out=opsOf (l.take k)∧Gf (l.take k) out m,fun _ _ x=>(l.length - x).toNat,⟨0,rfl,by omega,rfl,fun p hp=>by simp [eA] at hp⟩,?_⟩
 rintro out m _ ⟨k,rfl,hk,rfl,w6⟩
 refine ⟨fun hi=>?_,fun hi=>?_⟩
 ·have hi:=of_decide_eq_true hi
  have hk:k < l.length:=by omega
  have H:=xN h k (by omega)
  have hx:=qk h hk
  have HF:=si hk
  have pb:((l.take k).length:Int)=(k:Int):=by rw [List.length_take]; omega
  have AI:=pt (l.take k)
  have E9:(opsOf (l.take k)).length≤10000:=by
   have:lf (l.take k)≤k:=by
    unfold lf
    have:=List.countP_le_length (p:=fun x:aw=>x.bm == 1) (l:=l.take k)
    omega
   omega
  have AF:=nH (l.take k) (gi l (k:Int))
  rw [pb] at AF
  refine ⟨⟨by omega,hi⟩,fun w=>⟨by simp; omega,?_⟩,fun w=>?_⟩
  ·have w:(gi l (k:Int)).bm=1:=by simpa using w
   rcases ka hx with ⟨_,hl⟩ | ⟨w2,_⟩
   ·unfold VC56_J2
    rw [wrp (by omega) (by omega)]
    refine ⟨⟨k+1,by push_cast; rfl,by omega,?_,?_⟩,by first | omega | (dsimp only; omega)⟩
    ·rw [HF,AF,z9 H hl w]
    ·rw [HF]
     intro p hp
     rw [fk] at hp
     by_cases e:p=(gi l (k:Int)).ah
     ·subst e
      refine ⟨(opsOf (l.take k)).length,by rw [fc,if_pos rfl]; rfl,by simp,?_,?_⟩ <;> rw [cq _ _ (by simp)] <;> simp
     ·rw [if_neg (fun hh=>e hh.symm)] at hp
      obtain ⟨j,j1,j2,j3,j4⟩:=w6 p hp
      have eg:gi (opsOf (l.take k)++[(⟨(gi l (k:Int)).ah,(gi l (k:Int)).N,(k:Int),-1,-1⟩:ab)]) (j:Int)=gi (opsOf (l.take k)) (j:Int):=G4 (by omega) (by omega)
      exact ⟨j,by rw [fc,if_neg e]; exact j1,by simp; omega,by rw [eg]; exact j3,by rw [eg]; exact j4⟩
   ·omega
  ·have w:(gi l (k:Int)).bm≠1:=by simpa using w
   rcases ka hx with ⟨w2,_⟩ | ⟨w2,hl⟩
   ·omega
   ·obtain ⟨j,j1,j2,j3,j4⟩:=w6 _ hl
    rw [j1]
    refine ⟨⟨by omega,by omega⟩,?_⟩
    unfold VC56_J2
    rw [wrp (by omega) (by omega)]
    rw [show ((j:Nat):Int).toNat=j by omega,vY j2,List.set_set]
    refine ⟨⟨k+1,by push_cast; rfl,by omega,?_,?_⟩,by first | omega | (dsimp only; omega)⟩
    ·rw [HF,AF,step_ret H w j2 j3 j4]
    ·rw [HF]
     intro p hp
     rw [fk] at hp
     by_cases e:p=(gi l (k:Int)).ah
     ·subst e; rw [if_pos rfl] at hp; omega
     ·rw [if_neg (fun hh=>e hh.symm)] at hp
      obtain ⟨q,q1,q2,q3,q4⟩:=w6 p hp
      have hne:j≠q:=by rintro rfl; exact e (q3.symm.trans j3)
      exact ⟨q,q1,by simpa using q2,by rw [oD q2 hne]; exact q3,by rw [oD q2 hne]; exact q4⟩
 ·have hi:=of_decide_eq_false hi
  unfold VC56_J1
  rw [List.take_of_length_le (by omega)]
theorem v92 (s:List Int) (v:Int):VC92 s v (fun r=>r=dX s v):=by
 intro hs
 simp only [sm] at hs
 unfold dX
 refine ⟨fun x=>∃ k:Nat,x=(k:Int)∧k≤s.length∧pO v (s.drop k) (k:Int)=pO v s 0,fun x=>(s.length - x).toNat,⟨0,rfl,by omega,rfl⟩,?_⟩
 rintro _ ⟨k,rfl,hk,hg⟩
 refine ⟨fun h=>?_,fun h=>?_⟩
 ·have h:=of_decide_eq_true h
  rw [gU (l:=s) (i:=k) (by omega),pO] at hg
  refine ⟨⟨by omega,h⟩,fun h2=>?_,fun h2=>?_⟩
  ·rw [if_pos (by simpa using h2)] at hg; exact hg
  ·rw [if_neg (by simpa using h2)] at hg
   rw [wrp (by omega) (by omega)]
   exact ⟨⟨k+1,by push_cast; rfl,by omega,by push_cast; exact hg⟩,by first | omega | (dsimp only; omega)⟩
 ·have h:=of_decide_eq_false h
  rw [List.drop_eq_nil_of_le (by omega)] at hg
  exact hg
theorem zl (v:Int):∀ (s:List Int) (i:Int),0≤i→(pO v s i≥0↔v∈s)
 | [],i,_=>by simp [pO]
 | y :: s,i,h=>by
  rw [pO]
  by_cases e:v=y
  ·subst e; rw [if_pos rfl]; simp; omega
  ·rw [if_neg e,zl v s (i+1) (by omega)]; simp [e]
theorem v77 (s:List Int) (v:Int):VC77 s v (fun r=>r=cw s v):=by
 intro _
 rintro _ rfl
 exact decide_eq_decide.2 (zl v s 0 (by omega))
theorem v49 (s:List bc) (hp:zb s):VC49 s (fun r=>r=c8 s):=by
 have hl:s.length≤1000000:=hp
 intro _ b hb
 exact ⟨fun h=>(hb h).symm,fun _=>⟨by simp; omega,rfl⟩⟩
def fwd (p:Int):List aw→Int→Int × Int
 | [],_=>(-1,-1)
 | x :: r,k=>if x.ah=p then (k,x.N) else fwd p r (k+1)
def kQ:List aw→Int→List ab
 | [],_=>[]
 | x :: r,i=>(if x.bm=1 then [⟨x.ah,x.N,i,(fwd x.ah r (i+1)).1,(fwd x.ah r (i+1)).2⟩] else [])++kQ r (i+1)
def finish (l:List aw) (i:Int) (o:ab):ab:=if o.End=-1∧(fwd o.ah l i).1≠-1 then ⟨o.ah,o.Kind,o.aG,(fwd o.ah l i).1,(fwd o.ah l i).2⟩ else o
theorem v3 (p:Int):∀ (l:List aw) (k:Int),0≤k→(fwd p l k).1=-1→(fwd p l k).2=-1
 | [],_,_,_=>rfl
 | x :: l,k,h,e=>by
  rw [fwd] at e ⊢
  split at e
  ·dsimp only at e; omega
  ·rename_i hh; rw [if_neg hh]; exact v3 p l (k+1) (by omega) e
theorem uv {l:List aw} {x:aw} {i:Int} (h:0≤i) (o:ab):finish l (i+1) (ga i x o)=finish (x :: l) i o:=by
 by_cases e:o.End=-1
 ·by_cases p:o.ah=x.ah
  ·rw [pq ⟨e,p⟩]
   unfold finish
   rw [if_neg (by dsimp only; omega),if_pos]
   ·rw [fwd,if_pos p.symm]
   ·rw [fwd,if_pos p.symm]; exact ⟨e,by dsimp only; omega⟩
  ·rw [lC (fun h=>p h.2)]
   have e2:fwd o.ah (x :: l) i=fwd o.ah l (i+1):=by rw [fwd,if_neg (fun h=>p h.symm)]
   unfold finish
   rw [e2]
 ·rw [lC (fun h=>e h.1)]
  unfold finish
  rw [if_neg (fun h=>e h.1),if_neg (fun h=>e h.1)]
theorem sR:∀ (l:List aw) (i:Int) (ops:List ab),0≤i→l5 l i ops=ops.map (finish l i)++kQ l i
 | [],i,ops,_=>by
  have:∀ o:ab,finish [] i o=o:=fun o=>by unfold finish; rw [if_neg (fun h=>h.2 rfl)]
  rw [l5,kQ,List.append_nil,show finish [] i=id from funext this,List.map_id]
 | x :: l,i,ops,h=>by
  rw [l5,sR l (i+1) _ (by omega),kQ,← List.append_assoc]
  congr 1
  unfold fE
  rw [List.map_append,List.map_map]
  congr 1
  ·exact List.map_congr_left (fun o _=>uv h o)
  ·split
   ·rw [List.map_cons,List.map_nil]
    congr 1
    unfold finish
    dsimp only
    by_cases e:(fwd x.ah l (i+1)).1=-1
    ·rw [if_neg (fun h=>h.2 e),e,v3 _ _ _ (by omega) e]
    ·rw [if_pos ⟨rfl,e⟩]
   ·rfl
theorem tW (l:List aw):opsOf l=kQ l 0:=by
 unfold opsOf; rw [sR l 0 [] (by omega)]; rfl
theorem v18 (l:List aw):VC18 l (fun r=>r=gD l):=by
 intro _
 rintro _ rfl
 unfold gD gT e7
 refine ⟨fun h=>by rw [if_pos (by simpa using h)],fun h=>?_⟩
 have h:(bE l).2=0:=by simpa using h
 rw [if_neg (by omega),tW]
 have h10:=(rA h).1
 generalize hR:kQ l 0=R
 refine ⟨fun out i=>∃ k:Nat,i=(k:Int)∧k≤l.length∧out.length≤k∧out++kQ (l.drop k) (k:Int)=R,fun _ i=>(l.length - i).toNat,⟨0,rfl,by omega,by simp,hR⟩,?_⟩
 rintro out _ ⟨k,rfl,hk,ho,hg⟩
 refine ⟨fun hi=>?_,fun hi=>?_⟩
 ·have hi:=of_decide_eq_true hi
  have hI:(0:Int)≤(k:Int)∧(k:Int) < (l.length:Int):=⟨by omega,hi⟩
  rw [gU (l:=l) (i:=k) (by omega),kQ,← List.append_assoc] at hg
  refine ⟨hI,fun w=>?_,fun w=>⟨hI,hI,?_⟩⟩
  ·unfold VC18_J2
   rw [if_neg (by simpa using w),List.append_nil] at hg
   rw [wrp (by omega) (by omega)]
   exact ⟨⟨k+1,by push_cast; rfl,by omega,by omega,by push_cast; exact hg⟩,by first | omega | (dsimp only; omega)⟩
  ·rw [if_pos (by simpa using w)] at hg
   generalize hF:fwd (gi l (k:Int)).ah (l.drop (k+1)) ((k:Int)+1)=F at hg
   rw [wrp (by omega) (by omega)]
   refine ⟨fun KW q a b d e r=>out=KW∧a=(gi l (k:Int)).ah∧b=(gi l (k:Int)).N∧d=(k:Int)∧∃ q':Nat,q=(q':Int)∧q'≤l.length∧((e=-1∧r=-1∧fwd (gi l (k:Int)).ah (l.drop q') (q':Int)=F)∨(e≥0∧(e,r)=F)),fun _ q _ _ _ _ _=>(l.length - q).toNat,⟨rfl,rfl,rfl,rfl,k+1,by push_cast; rfl,by omega,.inl ⟨rfl,rfl,by push_cast; exact hF⟩⟩,?_⟩
   rintro _ _ _ _ _ e r ⟨rfl,rfl,rfl,rfl,q,rfl,hq,kK⟩
   refine ⟨fun h2=>?_,fun h2=>?_⟩
   ·rw [Bool.and_eq_true,decide_eq_true_eq,decide_eq_true_eq] at h2
    have hQ:(0:Int)≤(q:Int)∧(q:Int) < (l.length:Int):=⟨by omega,h2.1⟩
    rcases kK with ⟨rfl,rfl,hf⟩ | ⟨h3,_⟩
    ·rw [gU (l:=l) (i:=q) (by omega),fwd] at hf
     refine ⟨hQ,hI,fun h4=>⟨hQ,?_⟩,fun h4=>?_⟩
     ·rw [if_pos (by simpa using h4)] at hf
      unfold VC18_J4
      rw [wrp (by omega) (by omega)]
      exact ⟨⟨rfl,rfl,rfl,rfl,q+1,by push_cast; rfl,by omega,.inr ⟨by omega,hf⟩⟩,by first | omega | (dsimp only; omega)⟩
     ·rw [if_neg (by simpa using h4)] at hf
      unfold VC18_J4
      rw [wrp (by omega) (by omega)]
      exact ⟨⟨rfl,rfl,rfl,rfl,q+1,by push_cast; rfl,by omega,.inl ⟨rfl,rfl,by push_cast; exact hf⟩⟩,by first | omega | (dsimp only; omega)⟩
    ·omega
   ·have QG:(e,r)=F:=by
     rcases kK with ⟨rfl,rfl,hf⟩ | ⟨_,h3⟩
     ·rw [Bool.and_eq_false_iff,decide_eq_false_iff_not,decide_eq_false_iff_not] at h2
      rw [List.drop_eq_nil_of_le (by omega)] at hf
      exact hf
     ·exact h3
    unfold VC18_J3 VC18_J2
    rw [wrp (by omega) (by omega)]
    rw [← QG] at hg
    exact ⟨by simp; omega,⟨k+1,by push_cast; rfl,by omega,by simp; omega,by push_cast; exact hg⟩,by first | omega | (dsimp only; omega)⟩
 ·have hi:=of_decide_eq_false hi
  unfold VC18_J1
  rw [List.drop_eq_nil_of_le (by omega),kQ,List.append_nil] at hg
  rw [hg]
end Go.Proofs.YteahldlmkheleaaGreat
