/- Lemmas. -/
import Derived.Test.YteahldlmkheleaaGreatLV9
set_option linter.all false
namespace Go.Proofs.YteahldlmkheleaaGreat
open Go Go.Sv Go.Pu
def lev (n:Nat):Nat→List (List Int)
 | 0=>[[]]
 | k+1=>grow n (lev n k)
theorem z6:((List.range 6).all fun n=>(List.range 8).all fun k=>decide ((lev n k).length≤1000) && (lev n k).all fun x=>decide (x.length≤10))=true:=by decide +kernel
theorem D9:((List.range 6).all fun n=>decide (lev n (n+1)=[]))=true:=by decide +kernel
theorem B0 {n k:Nat} (hn:n≤5) (hk:k≤7):(lev n k).length≤1000∧∀ x∈lev n k,x.length≤10:=by
 have h:=z6
 rw [List.all_eq_true] at h
 have h:=h n (List.mem_range.2 (by omega))
 rw [List.all_eq_true] at h
 have h:=h k (List.mem_range.2 (by omega))
 rw [Bool.and_eq_true,decide_eq_true_eq,List.all_eq_true] at h
 exact ⟨h.1,fun x hx=>of_decide_eq_true (h.2 x hx)⟩
theorem D8 {n:Nat} (hn:n≤5):lev n (n+1)=[]:=by
 have h:=D9
 rw [List.all_eq_true] at h
 exact of_decide_eq_true (h n (List.mem_range.2 (by omega)))
def lX (x:List Int) (k:Nat):List (List Int):=((List.range k).filter fun k:Nat=>!decide ((k:Int)∈x)).map fun k:Nat=>x++[(k:Int)]
theorem wG (x:List Int) (k:Nat):lX x (k+1)=lX x k++(if decide ((k:Int)∈x) then [] else [x++[(k:Int)]]):=by
 unfold lX
 rw [List.range_succ,List.filter_append,List.map_append]
 congr 1
 by_cases h:(k:Int)∈x
 ·simp [h]
 ·simp [h]
theorem uI (x:List Int) (k:Nat):(lX x k).length≤k:=by
 unfold lX
 rw [List.length_map]
 exact Nat.le_trans (List.length_filter_le _ _) (by simp)
theorem yT {α β:Type} {f:α→List β} {c:Nat} (h:∀ x,(f x).length≤c):∀ L:List α,(L.flatMap f).length≤L.length * c
 | []=>by simp
 | x :: L=>by
  have:=yT h L
  have:=h x
  rw [List.flatMap_cons,List.length_append,List.length_cons,Nat.add_mul]
  omega
theorem vo (n:Nat) (L:List (List Int)):grow (n:Int) L=L.flatMap fun x=>lX x n:=rfl
theorem v39 (n:Int) (hp:x5 n):VC39 n (fun r=>r=dj n):=by
 obtain ⟨n0,n5⟩:=hp
 obtain ⟨m,rfl⟩:=Int.eq_ofNat_of_zero_le n0
 have hO:dj (m:Int)=[[]]++iy m (m+1) [[]]:=rfl
 rw [hO]
 generalize hR:[[]]++iy (m:Int) (m+1) [[]]=R
 refine ⟨fun out last=>∃ k:Nat,k≤m+1∧last=lev m k∧out.length≤1+1000 * k∧out++iy m (m+1 - k) last=R,fun out last=>2 * (10000 - out.length)+(if last=[] then 0 else 1),⟨0,by omega,rfl,by simp,by simpa using hR⟩,?_⟩
 rintro out last ⟨k,hk,G2,Ab,iP⟩
 obtain ⟨L1,L2⟩:=B0 (n:=m) (k:=k) (by omega) (by omega)
 rw [← G2] at L1 L2
 refine ⟨fun h=>?_,fun h=>?_⟩
 ·have h:=of_decide_eq_true h
  have hne:last≠[]:=by rintro rfl; simp at h
  have Sh:k≤m:=by
   apply Classical.byContradiction
   intro hh
   have:k=m+1:=by omega
   subst this
   rw [D8 (by omega)] at G2
   exact hne G2
  refine ⟨fun o' next i=>out=o'∧0≤i∧i≤last.length∧next=(last.take i.toNat).flatMap fun x=>lX x m,fun _ _ i=>(last.length - i).toNat,⟨rfl,by omega,by omega,by simp⟩,?_⟩
  rintro _ next i ⟨rfl,i0,i1,yH⟩
  refine ⟨fun hi=>?_,fun hi=>?_⟩
  ·have hi:=of_decide_eq_true hi
   have hfl:=yT (f:=fun x=>lX x m) (c:=5) (fun x=>Nat.le_trans (uI x m) (by omega)) (last.take i.toNat)
   rw [List.length_take] at hfl
   have Px:=L2 _ (e7 i0 hi)
   have Kr:=kE i0 hi
   generalize Ps:gi last i=x at *
   refine ⟨fun o' nx k2=>out=o'∧0≤k2∧k2≤m∧nx=((last.take i.toNat).flatMap fun x=>lX x m)++lX x k2.toNat,fun _ _ k2=>(m - k2).toNat,⟨rfl,by omega,by omega,by rw [yH]; simp [lX]⟩,?_⟩
   rintro _ nx k2 ⟨rfl,k0,k1,GZ⟩
   refine ⟨fun hk2=>?_,fun hk2=>?_⟩
   ·have hk2:=of_decide_eq_true hk2
    refine ⟨fun o' n2 ro j=>out=o'∧nx=n2∧0≤j∧j≤x.length∧ro=decide (k2∈x.take j.toNat),fun _ _ _ j=>(x.length - j).toNat,⟨rfl,rfl,by omega,by omega,by simp⟩,?_⟩
    rintro _ _ ro j ⟨rfl,rfl,j0,j1,Ad⟩
    refine ⟨⟨i0,hi⟩,?_⟩
    intro _
    refine ⟨fun hj=>?_,fun hj=>?_⟩
    ·have hj:=of_decide_eq_true hj
     have PF:=kE j0 hj
     have em:decide (k2∈x.take (j+1).toNat)=(ro || gi x j == k2):=by
      rw [PF,Ad,Bool.eq_iff_iff]
      simp only [List.mem_append,List.mem_singleton,decide_eq_true_eq,Bool.or_eq_true,beq_iff_eq]
      constructor
      ·rintro (h | h)
       ·exact .inl h
       ·exact .inr h.symm
      ·rintro (h | h)
       ·exact .inl h
       ·exact .inr h.symm
     unfold VC39_J6
     rw [wrp (by omega) (by omega)]
     refine ⟨fun hb=>?_,fun hb=>⟨⟨i0,hi⟩,fun _=>⟨⟨j0,hj⟩,?_⟩⟩⟩
     ·exact ⟨⟨rfl,rfl,by omega,by omega,by rw [em,hb]; rfl⟩,by first | omega | (dsimp only; omega)⟩
     ·exact ⟨⟨rfl,rfl,by omega,by omega,by rw [em,hb]; rfl⟩,by first | omega | (dsimp only; omega)⟩
    ·have hj:=of_decide_eq_false hj
     rw [List.take_of_length_le (by omega)] at Ad
     obtain ⟨q,rfl⟩:=Int.eq_ofNat_of_zero_le k0
     have Kt:=wG x q
     have Sd:=uI x q
     rw [show ((q:Nat):Int).toNat=q by omega] at GZ
     have Mi:nx.length≤10000:=by rw [GZ,List.length_append]; omega
     unfold VC39_J5 VC39_J4
     simp only [Ps]
     rw [wrp (by omega) (by omega)]
     refine ⟨fun hb=>⟨⟨i0,hi⟩,fun _=>⟨by simp; omega,by simp; omega,by simp; omega,?_⟩⟩,fun hb=>?_⟩
     ·rw [Bool.not_eq_true'] at hb
      rw [hb] at Ad
      rw [← Ad,if_neg (by simp)] at Kt
      exact ⟨⟨trivial,by omega,by omega,by rw [show (((q:Nat):Int)+1).toNat=q+1 by omega,Kt,GZ]; simp⟩,by first | omega | (dsimp only; omega)⟩
     ·rw [Bool.not_eq_false'] at hb
      rw [hb] at Ad
      rw [← Ad,if_pos rfl,List.append_nil] at Kt
      exact ⟨⟨trivial,by omega,by omega,by rw [show (((q:Nat):Int)+1).toNat=q+1 by omega,Kt,GZ]⟩,by first | omega | (dsimp only; omega)⟩
   ·have hk2:=of_decide_eq_false hk2
    have:k2.toNat=m:=by omega
    unfold VC39_J3
    rw [wrp (by omega) (by omega)]
    exact ⟨⟨rfl,by omega,by omega,by rw [Kr,GZ,this]; simp⟩,by first | omega | (dsimp only; omega)⟩
  ·have hi:=of_decide_eq_false hi
   have e:i.toNat=last.length:=by omega
   rw [e,List.take_length,← vo] at yH
   have N7:next=lev m (k+1):=by rw [yH,G2]; rfl
   obtain ⟨M1,_⟩:=B0 (n:=m) (k:=k+1) (by omega) (by omega)
   rw [← N7] at M1
   have Mu:iy (m:Int) (m+1 - k) last=next++iy m (m+1 - (k+1)) next:=by
    rw [show m+1 - k=(m+1 - (k+1))+1 by omega]
    show (if last=[] then [] else _)=_
    rw [if_neg hne,yH]
   unfold VC39_J2
   refine ⟨by omega,⟨k+1,by omega,N7,by rw [List.length_append]; omega,by rw [List.append_assoc,← Mu]; exact iP⟩,?_⟩
   dsimp only
   rw [List.length_append,if_neg hne]
   by_cases IJ:next=[]
   ·rw [if_pos IJ,IJ]; simp
   ·rw [if_neg IJ]
    have:0 < next.length:=List.length_pos_iff.2 IJ
    omega
 ·have h:=of_decide_eq_false h
  have:last=[]:=List.length_eq_zero_iff.1 (by omega)
  rw [this] at iP
  unfold VC39_J1
  rw [← iP]
  have:∀ f,iy (m:Int) f []=[]:=fun f=>by cases f <;> simp [iy]
  rw [this,List.append_nil]
theorem tw:((List.range 6).all fun n=>decide ((dj (n:Int)).length≤1000) && (dj (n:Int)).all fun x=>decide (x.length≤10))=true:=by decide +kernel
theorem zP {n:Nat} (hn:n≤5):(dj (n:Int)).length≤1000∧∀ x∈dj (n:Int),x.length≤10:=by
 have h:=tw
 rw [List.all_eq_true] at h
 have h:=h n (List.mem_range.2 (by omega))
 rw [Bool.and_eq_true,decide_eq_true_eq,List.all_eq_true] at h
 exact ⟨h.1,fun x hx=>of_decide_eq_true (h.2 x hx)⟩
theorem v30 (o:ae) (l:List ab) (hp:yn o l):VC30 o l (fun r=>r=eV o l):=by
 have hp:l.length≤5:=hp
 intro _ _
 refine ⟨⟨by omega,by omega⟩,?_⟩
 rintro _ rfl
 intro _
 obtain ⟨q1,q2⟩:=zP hp
 unfold eV
 generalize dj (l.length:Int)=R at *
 refine ⟨fun out i=>0≤i∧i≤R.length∧out=(R.take i.toNat).filterMap (mX o l),fun _ i=>(R.length - i).toNat,⟨by omega,by omega,by simp⟩,?_⟩
 rintro out i ⟨i0,i1,ho⟩
 refine ⟨fun hi=>?_,fun hi=>?_⟩
 ·have hi:=of_decide_eq_true hi
  have hx:=q2 _ (e7 i0 hi)
  have Kr:=kE i0 hi
  have Ab:out.length≤1000:=by
   rw [ho]; refine Nat.le_trans (List.length_filterMap_le _ _) ?_
   rw [List.length_take]; omega
  refine ⟨⟨i0,hi⟩,fun _=>⟨by show (gi R i).length≤1000000; omega,?_⟩⟩
  rintro _ rfl
  intro _
  have fin:∀ b,b=decide ((df o l (gi R i)).2=0∧ec o l (df o l (gi R i)).1=true)→VC30_J3 (fun out i=>0≤i∧i≤R.length∧out=(R.take i.toNat).filterMap (mX o l)) (fun _ i=>(R.length - i).toNat) out i (df o l (gi R i)) out b:=by
   intro b hb
   unfold VC30_J3 VC30_J2
   rw [wrp (by omega) (by omega)]
   refine ⟨fun h=>⟨by simp; omega,⟨by omega,by omega,?_⟩,by first | omega | (dsimp only; omega)⟩,fun h=>⟨⟨by omega,by omega,?_⟩,by first | omega | (dsimp only; omega)⟩⟩
   ·rw [h] at hb
    have hb:=of_decide_eq_true hb.symm
    have e:mX o l (gi R i)=some (df o l (gi R i)).1:=by unfold mX; rw [if_pos hb]
    rw [Kr,List.filterMap_append,ho]
    congr 1
    rw [List.filterMap_cons_some e]; rfl
   ·rw [h] at hb
    have hb:=of_decide_eq_false hb.symm
    have e:mX o l (gi R i)=none:=by unfold mX; rw [if_neg hb]
    rw [Kr,List.filterMap_append,ho,List.filterMap_cons_none e]; simp
  refine ⟨fun h=>?_,fun h=>?_⟩
  ·rintro _ rfl
   refine fin _ ?_
   have h:(df o l (gi R i)).2=0:=by simpa using h
   simp [h]
  ·refine fin _ ?_
   have h:¬ (df o l (gi R i)).2=0:=by simpa using h
   simp [h]
 ·have hi:=of_decide_eq_false hi
  rw [List.take_of_length_le (by omega)] at ho
  exact ho
end Go.Proofs.YteahldlmkheleaaGreat
