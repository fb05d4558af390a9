/- zN mQ Fe,and all linearizations by them. -/
import Derived.Test.YteahldlmkheleaaGreatLV9
set_option linter.all false
namespace Go.Proofs.YteahldlmkheleaaGreat
open Go Go.Sv Go.Pu
def lev (n:Nat):Nat→List (List Int)
 | 0=>[[]]
 | k+1=>grow n (lev n k)
theorem yS:((List.range 6).all fun n=>(List.range 8).all fun k=>decide ((lev n k).length≤1000) && (lev n k).all fun x=>decide (x.length≤10))=true:=by decide +kernel
theorem C1:((List.range 6).all fun n=>decide (lev n (n+1)=[]))=true:=by decide +kernel
theorem AV {n k:Nat} (hn:n≤5) (hk:k≤7):(lev n k).length≤1000∧∀ x∈lev n k,x.length≤10:=by
 have h:=yS
 rw [List.all_eq_true] at h
 have h:=h n (List.mem_range.2 (by omega))
 rw [List.all_eq_true] at h
 have h:=h k (List.mem_range.2 (by omega))
 rw [Bool.and_eq_true,decide_eq_true_eq,List.all_eq_true] at h
 exact ⟨h.1,fun x hx=>of_decide_eq_true (h.2 x hx)⟩
theorem C0 {n:Nat} (hn:n≤5):lev n (n+1)=[]:=by
 have h:=C1
 rw [List.all_eq_true] at h
 exact of_decide_eq_true (h n (List.mem_range.2 (by omega)))
def ln (x:List Int) (k:Nat):List (List Int):=((List.range k).filter fun k:Nat=>!decide ((k:Int)∈x)).map fun k:Nat=>x++[(k:Int)]
theorem vL (x:List Int) (k:Nat):ln x (k+1)=ln x k++(if decide ((k:Int)∈x) then [] else [x++[(k:Int)]]):=by
 unfold ln
 rw [List.range_succ,List.filter_append,List.map_append]
 congr 1
 by_cases h:(k:Int)∈x
 ·simp [h]
 ·simp [h]
theorem tS (x:List Int) (k:Nat):(ln x k).length≤k:=by
 unfold ln
 rw [List.length_map]
 exact Nat.le_trans (List.length_filter_le _ _) (by simp)
theorem xW {α β:Type} {f:α→List β} {c:Nat} (h:∀ x,(f x).length≤c):∀ L:List α,(L.flatMap f).length≤L.length * c
 | []=>by simp
 | x :: L=>by
  have:=xW h L
  have:=h x
  rw [List.flatMap_cons,List.length_append,List.length_cons,Nat.add_mul]
  omega
theorem uE (n:Nat) (L:List (List Int)):grow (n:Int) L=L.flatMap fun x=>ln x n:=rfl
theorem v39 (n:Int) (hp:w8 n):VC39 n (fun r=>r=c7 n):=by
 obtain ⟨n0,n5⟩:=hp
 obtain ⟨m,rfl⟩:=Int.eq_ofNat_of_zero_le n0
 have hO:c7 (m:Int)=[[]]++ir m (m+1) [[]]:=rfl
 rw [hO]
 generalize hR:[[]]++ir (m:Int) (m+1) [[]]=R
 refine ⟨fun out last=>∃ k:Nat,k≤m+1∧last=lev m k∧out.length≤1+1000 * k∧out++ir m (m+1 - k) last=R,fun out last=>2 * (10000 - out.length)+(if last=[] then 0 else 1),⟨0,by omega,rfl,by simp,by simpa using hR⟩,?_⟩
 rintro out last ⟨k,hk,FY,Cl,i5⟩
 obtain ⟨L1,L2⟩:=AV (n:=m) (k:=k) (by omega) (by omega)
 rw [← FY] at L1 L2
 refine ⟨fun h=>?_,fun h=>?_⟩
 ·have h:=of_decide_eq_true h
  have hne:last≠[]:=by rintro rfl; simp at h
  have Rp:k≤m:=by
   apply Classical.byContradiction
   intro hh
   have:k=m+1:=by omega
   subst this
   rw [C0 (by omega)] at FY
   exact hne FY
  refine ⟨fun o' next i=>out=o'∧0≤i∧i≤last.length∧next=(last.take i.toNat).flatMap fun x=>ln x m,fun _ _ i=>(last.length - i).toNat,⟨rfl,by omega,by omega,by simp⟩,?_⟩
  rintro _ next i ⟨rfl,i0,i1,xJ⟩
  refine ⟨fun hi=>?_,fun hi=>?_⟩
  ·have hi:=of_decide_eq_true hi
   have hfl:=xW (f:=fun x=>ln x m) (c:=5) (fun x=>Nat.le_trans (tS x m) (by omega)) (last.take i.toNat)
   rw [List.length_take] at hfl
   have Ot:=L2 _ (dq i0 hi)
   have OB:=kS i0 hi
   generalize On:gi last i=x at *
   refine ⟨fun o' nx k2=>out=o'∧0≤k2∧k2≤m∧nx=((last.take i.toNat).flatMap fun x=>ln x m)++ln x k2.toNat,fun _ _ k2=>(m - k2).toNat,⟨rfl,by omega,by omega,by rw [xJ]; simp [ln]⟩,?_⟩
   rintro _ nx k2 ⟨rfl,k0,k1,FV⟩
   refine ⟨fun hk2=>?_,fun hk2=>?_⟩
   ·have hk2:=of_decide_eq_true hk2
    refine ⟨fun o' n2 qP j=>out=o'∧nx=n2∧0≤j∧j≤x.length∧qP=decide (k2∈x.take j.toNat),fun _ _ _ j=>(x.length - j).toNat,⟨rfl,rfl,by omega,by omega,by simp⟩,?_⟩
    rintro _ _ qP j ⟨rfl,rfl,j0,j1,zb⟩
    refine ⟨⟨i0,hi⟩,?_⟩
    intro _
    refine ⟨fun hj=>?_,fun hj=>?_⟩
    ·have hj:=of_decide_eq_true hj
     have OC:=kS j0 hj
     have em:decide (k2∈x.take (j+1).toNat)=(qP || gi x j == k2):=by
      rw [OC,zb,Bool.eq_iff_iff]
      simp only [List.mem_append,List.mem_singleton,decide_eq_true_eq,Bool.or_eq_true,beq_iff_eq]
      constructor
      ·rintro (h | h)
       ·exact .inl h
       ·exact .inr h.symm
      ·rintro (h | h)
       ·exact .inl h
       ·exact .inr h.symm
     unfold VC39_J6
     rw [wrp (by omega) (by omega)]
     refine ⟨fun hb=>?_,fun hb=>⟨⟨i0,hi⟩,fun _=>⟨⟨j0,hj⟩,?_⟩⟩⟩
     ·exact ⟨⟨rfl,rfl,by omega,by omega,by rw [em,hb]; rfl⟩,by first | omega | (dsimp only; omega)⟩
     ·exact ⟨⟨rfl,rfl,by omega,by omega,by rw [em,hb]; rfl⟩,by first | omega | (dsimp only; omega)⟩
    ·have hj:=of_decide_eq_false hj
     rw [List.take_of_length_le (by omega)] at zb
     obtain ⟨q,rfl⟩:=Int.eq_ofNat_of_zero_le k0
     have Jk:=vL x q
     have Rk:=tS x q
     rw [show ((q:Nat):Int).toNat=q by omega] at FV
     have La:nx.length≤10000:=by rw [FV,List.length_append]; omega
     unfold VC39_J5 VC39_J4
     simp only [On]
     rw [wrp (by omega) (by omega)]
     refine ⟨fun hb=>⟨⟨i0,hi⟩,fun _=>⟨by simp; omega,by simp; omega,by simp; omega,?_⟩⟩,fun hb=>?_⟩
     ·rw [Bool.not_eq_true'] at hb
      rw [hb] at zb
      rw [← zb,if_neg (by simp)] at Jk
      exact ⟨⟨trivial,by omega,by omega,by rw [show (((q:Nat):Int)+1).toNat=q+1 by omega,Jk,FV]; simp⟩,by first | omega | (dsimp only; omega)⟩
     ·rw [Bool.not_eq_false'] at hb
      rw [hb] at zb
      rw [← zb,if_pos rfl,List.append_nil] at Jk
      exact ⟨⟨trivial,by omega,by omega,by rw [show (((q:Nat):Int)+1).toNat=q+1 by omega,Jk,FV]⟩,by first | omega | (dsimp only; omega)⟩
   ·have hk2:=of_decide_eq_false hk2
    have:k2.toNat=m:=by omega
    unfold VC39_J3
    rw [wrp (by omega) (by omega)]
    exact ⟨⟨rfl,by omega,by omega,by rw [OB,FV,this]; simp⟩,by first | omega | (dsimp only; omega)⟩
  ·have hi:=of_decide_eq_false hi
   have e:i.toNat=last.length:=by omega
   rw [e,List.take_length,← uE] at xJ
   have Nb:next=lev m (k+1):=by rw [xJ,FY]; rfl
   obtain ⟨M1,_⟩:=AV (n:=m) (k:=k+1) (by omega) (by omega)
   rw [← Nb] at M1
   have Ln:ir (m:Int) (m+1 - k) last=next++ir m (m+1 - (k+1)) next:=by
    rw [show m+1 - k=(m+1 - (k+1))+1 by omega]
    show (if last=[] then [] else _)=_
    rw [if_neg hne,xJ]
   unfold VC39_J2
   refine ⟨by omega,⟨k+1,by omega,Nb,by rw [List.length_append]; omega,by rw [List.append_assoc,← Ln]; exact i5⟩,?_⟩
   dsimp only
   rw [List.length_append,if_neg hne]
   by_cases Hw:next=[]
   ·rw [if_pos Hw,Hw]; simp
   ·rw [if_neg Hw]
    have:0 < next.length:=List.length_pos_iff.2 Hw
    omega
 ·have h:=of_decide_eq_false h
  have:last=[]:=List.length_eq_zero_iff.1 (by omega)
  rw [this] at i5
  unfold VC39_J1
  rw [← i5]
  have:∀ f,ir (m:Int) f []=[]:=fun f=>by cases f <;> simp [ir]
  rw [this,List.append_nil]
theorem sG:((List.range 6).all fun n=>decide ((c7 (n:Int)).length≤1000) && (c7 (n:Int)).all fun x=>decide (x.length≤10))=true:=by decide +kernel
theorem yK {n:Nat} (hn:n≤5):(c7 (n:Int)).length≤1000∧∀ x∈c7 (n:Int),x.length≤10:=by
 have h:=sG
 rw [List.all_eq_true] at h
 have h:=h n (List.mem_range.2 (by omega))
 rw [Bool.and_eq_true,decide_eq_true_eq,List.all_eq_true] at h
 exact ⟨h.1,fun x hx=>of_decide_eq_true (h.2 x hx)⟩
end Go.Proofs.YteahldlmkheleaaGreat
