/- Lemmas. -/
import Derived.Test.YteahldlmkheleaaGreatLV9
set_option linter.all false
namespace Go.Proofs.YteahldlmkheleaaGreat
open Go Go.Sv Go.Pu
def lev (n:Nat):Nat→List (List Int)
 | 0=>[[]]
 | k+1=>grow n (lev n k)
theorem Ai:((List.range 6).all fun n=>(List.range 8).all fun k=>decide ((lev n k).length≤1000) && (lev n k).all fun x=>decide (x.length≤10))=true:=by decide +kernel
theorem Ej:((List.range 6).all fun n=>decide (lev n (n+1)=[]))=true:=by decide +kernel
theorem B9 {n k:Nat} (hn:n≤5) (hk:k≤7):(lev n k).length≤1000∧∀ x∈lev n k,x.length≤10:=by
 have h:=Ai
 rw [List.all_eq_true] at h
 have h:=h n (List.mem_range.2 (by omega))
 rw [List.all_eq_true] at h
 have h:=h k (List.mem_range.2 (by omega))
 rw [Bool.and_eq_true,decide_eq_true_eq,List.all_eq_true] at h
 exact ⟨h.1,fun x hx=>of_decide_eq_true (h.2 x hx)⟩
theorem Ei {n:Nat} (hn:n≤5):lev n (n+1)=[]:=by
 have h:=Ej
 rw [List.all_eq_true] at h
 exact of_decide_eq_true (h n (List.mem_range.2 (by omega)))
def l3 (x:List Int) (k:Nat):List (List Int):=((List.range k).filter fun k:Nat=>!decide ((k:Int)∈x)).map fun k:Nat=>x++[(k:Int)]
theorem xa (x:List Int) (k:Nat):l3 x (k+1)=l3 x k++(if decide ((k:Int)∈x) then [] else [x++[(k:Int)]]):=by
 unfold l3
 rw [List.range_succ,List.filter_append,List.map_append]
 congr 1
 by_cases h:(k:Int)∈x
 ·simp [h]
 ·simp [h]
theorem uZ (x:List Int) (k:Nat):(l3 x k).length≤k:=by
 unfold l3
 rw [List.length_map]
 exact Nat.le_trans (List.length_filter_le _ _) (by simp)
theorem zp {α β:Type} {f:α→List β} {c:Nat} (h:∀ x,(f x).length≤c):∀ L:List α,(L.flatMap f).length≤L.length * c
 | []=>by simp
 | x :: L=>by
  have:=zp h L
  have:=h x
  rw [List.flatMap_cons,List.length_append,List.length_cons,Nat.add_mul]
  omega
theorem vL (n:Nat) (L:List (List Int)):grow (n:Int) L=L.flatMap fun x=>l3 x n:=rfl
theorem v39 (n:Int) (hp:yq n):VC39 n (fun r=>r=dh n):=by
 obtain ⟨n0,n5⟩:=hp
 obtain ⟨m,rfl⟩:=Int.eq_ofNat_of_zero_le n0
 have hO:dh (m:Int)=[[]]++iT m (m+1) [[]]:=rfl
 rw [hO]
 generalize hR:[[]]++iT (m:Int) (m+1) [[]]=R
 refine ⟨fun out last=>∃ k:Nat,k≤m+1∧last=lev m k∧out.length≤1+1000 * k∧out++iT m (m+1 - k) last=R,fun out last=>2 * (10000 - out.length)+(if last=[] then 0 else 1),⟨0,by omega,rfl,by simp,by simpa using hR⟩,?_⟩
 rintro out last ⟨k,hk,Hg,DC,jE⟩
 obtain ⟨L1,L2⟩:=B9 (n:=m) (k:=k) (by omega) (by omega)
 rw [← Hg] at L1 L2
 refine ⟨fun h=>?_,fun h=>?_⟩
 ·have h:=of_decide_eq_true h
  have hne:last≠[]:=by rintro rfl; simp at h
  have S2:k≤m:=by
   apply Classical.byContradiction
   intro hh
   have:k=m+1:=by omega
   subst this
   rw [Ei (by omega)] at Hg
   exact hne Hg
  refine ⟨fun o' next i=>out=o'∧0≤i∧i≤last.length∧next=(last.take i.toNat).flatMap fun x=>l3 x m,fun _ _ i=>(last.length - i).toNat,⟨rfl,by omega,by omega,by simp⟩,?_⟩
  rintro _ next i ⟨rfl,i0,i1,zb⟩
  refine ⟨fun hi=>?_,fun hi=>?_⟩
  ·have hi:=of_decide_eq_true hi
   have hfl:=zp (f:=fun x=>l3 x m) (c:=5) (fun x=>Nat.le_trans (uZ x m) (by omega)) (last.take i.toNat)
   rw [List.length_take] at hfl
   have PY:=L2 _ (dB i0 hi)
   have P7:=lG i0 hi
   generalize PV:gi last i=x at *
   refine ⟨fun o' nx k2=>out=o'∧0≤k2∧k2≤m∧nx=((last.take i.toNat).flatMap fun x=>l3 x m)++l3 x k2.toNat,fun _ _ k2=>(m - k2).toNat,⟨rfl,by omega,by omega,by rw [zb]; simp [l3]⟩,?_⟩
   rintro _ nx k2 ⟨rfl,k0,k1,Hd⟩
   refine ⟨fun hk2=>?_,fun hk2=>?_⟩
   ·have hk2:=of_decide_eq_true hk2
    refine ⟨fun o' n2 rS j=>out=o'∧nx=n2∧0≤j∧j≤x.length∧rS=decide (k2∈x.take j.toNat),fun _ _ _ j=>(x.length - j).toNat,⟨rfl,rfl,by omega,by omega,by simp⟩,?_⟩
    rintro _ _ rS j ⟨rfl,rfl,j0,j1,Ar⟩
    refine ⟨⟨i0,hi⟩,?_⟩
    intro _
    refine ⟨fun hj=>?_,fun hj=>?_⟩
    ·have hj:=of_decide_eq_true hj
     have P8:=lG j0 hj
     have em:decide (k2∈x.take (j+1).toNat)=(rS || gi x j == k2):=by
      rw [P8,Ar,Bool.eq_iff_iff]
      simp only [List.mem_append,List.mem_singleton,decide_eq_true_eq,Bool.or_eq_true,beq_iff_eq]
      constructor
      ·rintro (h | h)
       ·exact .inl h
       ·exact .inr h.symm
      ·rintro (h | h)
       ·exact .inl h
       ·exact .inr h.symm
     unfold VC39_J6
     rw [wrp (by omega) (by omega)]
     refine ⟨fun hb=>?_,fun hb=>⟨⟨i0,hi⟩,fun _=>⟨⟨j0,hj⟩,?_⟩⟩⟩
     ·exact ⟨⟨rfl,rfl,by omega,by omega,by rw [em,hb]; rfl⟩,by first | omega | (dsimp only; omega)⟩
     ·exact ⟨⟨rfl,rfl,by omega,by omega,by rw [em,hb]; rfl⟩,by first | omega | (dsimp only; omega)⟩
    ·have hj:=of_decide_eq_false hj
     rw [List.take_of_length_le (by omega)] at Ar
     obtain ⟨q,rfl⟩:=Int.eq_ofNat_of_zero_le k0
     have KE:=xa x q
     have SW:=uZ x q
     rw [show ((q:Nat):Int).toNat=q by omega] at Hd
     have Mz:nx.length≤10000:=by rw [Hd,List.length_append]; omega
     unfold VC39_J5 VC39_J4
     simp only [PV]
     rw [wrp (by omega) (by omega)]
     refine ⟨fun hb=>⟨⟨i0,hi⟩,fun _=>⟨by simp; omega,by simp; omega,by simp; omega,?_⟩⟩,fun hb=>?_⟩
     ·rw [Bool.not_eq_true'] at hb
      rw [hb] at Ar
      rw [← Ar,if_neg (by simp)] at KE
      exact ⟨⟨trivial,by omega,by omega,by rw [show (((q:Nat):Int)+1).toNat=q+1 by omega,KE,Hd]; simp⟩,by first | omega | (dsimp only; omega)⟩
     ·rw [Bool.not_eq_false'] at hb
      rw [hb] at Ar
      rw [← Ar,if_pos rfl,List.append_nil] at KE
      exact ⟨⟨trivial,by omega,by omega,by rw [show (((q:Nat):Int)+1).toNat=q+1 by omega,KE,Hd]⟩,by first | omega | (dsimp only; omega)⟩
   ·have hk2:=of_decide_eq_false hk2
    have:k2.toNat=m:=by omega
    unfold VC39_J3
    rw [wrp (by omega) (by omega)]
    exact ⟨⟨rfl,by omega,by omega,by rw [P7,Hd,this]; simp⟩,by first | omega | (dsimp only; omega)⟩
  ·have hi:=of_decide_eq_false hi
   have e:i.toNat=last.length:=by omega
   rw [e,List.take_length,← vL] at zb
   have OE:next=lev m (k+1):=by rw [zb,Hg]; rfl
   obtain ⟨M1,_⟩:=B9 (n:=m) (k:=k+1) (by omega) (by omega)
   rw [← OE] at M1
   have MM:iT (m:Int) (m+1 - k) last=next++iT m (m+1 - (k+1)) next:=by
    rw [show m+1 - k=(m+1 - (k+1))+1 by omega]
    show (if last=[] then [] else _)=_
    rw [if_neg hne,zb]
   unfold VC39_J2
   refine ⟨by omega,⟨k+1,by omega,OE,by rw [List.length_append]; omega,by rw [List.append_assoc,← MM]; exact jE⟩,?_⟩
   dsimp only
   rw [List.length_append,if_neg hne]
   by_cases IW:next=[]
   ·rw [if_pos IW,IW]; simp
   ·rw [if_neg IW]
    have:0 < next.length:=List.length_pos_iff.2 IW
    omega
 ·have h:=of_decide_eq_false h
  have:last=[]:=List.length_eq_zero_iff.1 (by omega)
  rw [this] at jE
  unfold VC39_J1
  rw [← jE]
  have:∀ f,iT (m:Int) f []=[]:=fun f=>by cases f <;> simp [iT]
  rw [this,List.append_nil]
theorem tO:((List.range 6).all fun n=>decide ((dh (n:Int)).length≤1000) && (dh (n:Int)).all fun x=>decide (x.length≤10))=true:=by decide +kernel
theorem Aa {n:Nat} (hn:n≤5):(dh (n:Int)).length≤1000∧∀ x∈dh (n:Int),x.length≤10:=by
 have h:=tO
 rw [List.all_eq_true] at h
 have h:=h n (List.mem_range.2 (by omega))
 rw [Bool.and_eq_true,decide_eq_true_eq,List.all_eq_true] at h
 exact ⟨h.1,fun x hx=>of_decide_eq_true (h.2 x hx)⟩
end Go.Proofs.YteahldlmkheleaaGreat
