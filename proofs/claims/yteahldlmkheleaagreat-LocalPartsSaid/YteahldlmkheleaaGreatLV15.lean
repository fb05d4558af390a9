/- Lemmas. -/
import Derived.Test.YteahldlmkheleaaGreatLV14
set_option linter.all false
namespace Go.Proofs.YteahldlmkheleaaGreat
open Go Go.Sv Go.Pu
theorem v25 (a b:List Int):VC25 a b (fun r=>r=e7 a b):=by
 unfold VC25
 intro ha hb
 simp only [sm] at ha hb
 refine ⟨fun h=>?_,fun h=>?_⟩
 ·have:a≠b:=by rintro rfl; simp at h
  simp [e7,this]
 ·have hl:a.length=b.length:=by simp at h; omega
  refine ⟨fun i=>0≤i∧i≤a.length∧∀ j:Int,0≤j→j < i→gi a j=gi b j,fun i=>(a.length - i).toNat,⟨by omega,by omega,fun j h0 h1=>by omega⟩,?_⟩
  rintro i ⟨h0,h1,h2⟩
  simp only [decide_eq_true_eq,decide_eq_false_iff_not,bne_iff_ne,bne_eq_false_iff_eq]
  refine ⟨fun hi=>⟨by omega,by omega,fun hne=>?_,fun he=>?_⟩,fun hi=>?_⟩
  ·have:a≠b:=by rintro rfl; exact hne rfl
   simp [e7,this]
  ·rw [wrp (by omega) (by omega)]
   refine ⟨⟨by omega,by omega,fun j j0 j1=>?_⟩,by omega⟩
   by_cases hj:j < i
   ·exact h2 j j0 hj
   ·rw [show j=i by omega]; exact he
  ·have:a=b:=CC hl (fun j j0 j1=>h2 j j0 (by omega))
   simp [VC25_J1,e7,this]
theorem v76 (p:Int × Int) (n:Int):VC76 p n (fun r=>r=ec p n):=by
 unfold VC76 ec
 show _=_
 rw [Bool.eq_iff_iff]
 simp only [Bool.and_eq_true,decide_eq_true_eq,bne_iff_ne]
 constructor
 ·rintro ⟨⟨h1,h2⟩,h3⟩
  split at h1 <;> split at h2 <;> refine ⟨?_,?_,?_,?_,h3⟩ <;> omega
 ·rintro ⟨h1,h2,h3,h4,h5⟩
  refine ⟨⟨?_,?_⟩,h5⟩ <;> split <;> omega
theorem v75 (p:Int × Int) (n x:Int) (out:List Int):VC75 p n x out (fun r=>r=cl p n x out):=by
 unfold VC75
 intro _ r hr
 subst hr
 refine ⟨fun h=>?_,fun h=>?_⟩
 ·intro r hr
  subst hr
  have h:(ec p n && p.2 == x)=true:=h
  unfold cl cC
  rw [h]; rfl
 ·have h:(ec p n && p.2 == x)=false:=h
  unfold cl
  rw [h]; rfl
theorem v93_75 (l:List (Int × Int)) (n x:Int) (out:List Int):VC93_75 l n x out (fun r=>r=br l n x out):=by
 unfold VC93_75
 intro hl _
 simp only [sm] at hl
 refine ⟨fun i=>0≤i∧i≤l.length∧∀ j:Int,0≤j→j < i→cl (gi l j) n x out=false,fun i=>(l.length - i).toNat,⟨by omega,by omega,fun j h0 h1=>by omega⟩,?_⟩
 rintro i ⟨h0,h1,h2⟩
 simp only [decide_eq_true_eq,decide_eq_false_iff_not]
 refine ⟨fun hi=>⟨⟨by omega,by omega⟩,?_⟩,fun hi=>?_⟩
 ·intro r hr
  subst hr
  refine ⟨fun he=>?_,fun he=>?_⟩
  ·unfold br
   rw [qh (f:=fun p=>cl p n x out) h0 hi he h2]
   dsimp only; omega
  ·rw [wrp (by omega) (by omega)]
   refine ⟨⟨by omega,by omega,fun j j0 j1=>?_⟩,by omega⟩
   by_cases hj:j < i
   ·exact h2 j j0 hj
   ·rw [show j=i by omega]; exact he
 ·unfold VC93_75_J1 br
  rw [qg (f:=fun p=>cl p n x out) (fun j j0 j1=>h2 j j0 (by omega))]
theorem v78_75 (l:List (Int × Int)) (n x:Int) (out:List Int):VC78_75 l n x out (fun r=>r=bJ l n x out):=by
 unfold VC78_75
 intro _ _ r hr
 subst hr
 unfold br bJ
 cases h:l.findIdx? (fun p=>cl p n x out) with
 | none =>
  rw [List.findIdx?_eq_none_iff] at h
  dsimp only
  have:l.any (fun p=>cl p n x out)=false:=by
   rw [List.any_eq_false]; intro y hy; simp [h y hy]
  rw [this]; decide
 | some i =>
  rw [List.findIdx?_eq_some_iff_getElem] at h
  obtain ⟨hi,he,_⟩:=h
  dsimp only
  have:l.any (fun p=>cl p n x out)=true:=by
   rw [List.any_eq_true]; exact ⟨_,List.getElem_mem _,he⟩
  rw [this]; simp
theorem v74 (x n:Int) (out:List Int) (pairs:List (Int × Int)):VC74 x n out pairs (fun r=>r=dg x n out pairs):=by
 unfold VC74
 intro _ _ r hr
 subst hr
 unfold dg cC
 refine ⟨fun h=>by rw [h]; rfl,fun h=>?_⟩
 intro r hr
 subst hr
 rw [h]; rfl
theorem Ee {n:Int} {pairs:List (Int × Int)} {out:List Int} {t:Nat} (h:(t:Int) < n) (hw:dg t n out pairs=false) (h2:∀ y:Nat,y < t→dg y n out pairs=true):ke n pairs out=some t:=by
 unfold ke
 rw [List.find?_range_eq_some]
 refine ⟨by simp [hw],by rw [List.mem_range]; omega,fun y hy=>by simp [h2 y hy]⟩
theorem Ed {n:Int} {pairs:List (Int × Int)} {out:List Int} (h2:∀ y:Nat,(y:Int) < n→dg y n out pairs=true):ke n pairs out=none:=by
 unfold ke
 rw [List.find?_range_eq_none]
 intro y hy
 simp [h2 y (by omega)]
theorem v44 (n:Int) (pairs:List (Int × Int)):VC44 n pairs (fun r=>r=dp n pairs):=by
 unfold VC44
 intro _
 simp only [Bool.or_eq_true,decide_eq_true_eq,Bool.or_eq_false_iff,decide_eq_false_iff_not]
 refine ⟨fun h=>?_,fun h=>?_⟩
 ·unfold dp; rw [if_pos (by omega)]
 ·obtain ⟨n0,n1⟩:=h
  have et:dp n pairs=iu n pairs n.toNat []:=by unfold dp; rw [if_neg (by omega)]
  rw [et]
  refine ⟨by omega,fun out=>∃ k:Nat,((out.length+k:Nat):Int)=n∧iu n pairs k out=iu n pairs n.toNat [],fun out=>(n - out.length).toNat,⟨n.toNat,by simp; omega,by simp⟩,?_⟩
  rintro out ⟨k,hk,jE⟩
  refine ⟨fun ik=>?_,fun hge=>?_⟩
  ·obtain ⟨k,rfl⟩:∃ j,k=j+1:=⟨k - 1,by omega⟩
   refine ⟨fun x o=>o=out∧∃ t:Nat,x=t∧(t:Int)≤n∧∀ y:Nat,y < t→dg y n out pairs=true,fun x _=>(n - x).toNat,⟨rfl,0,rfl,by omega,fun y hy=>by omega⟩,?_⟩
   rintro _ _ ⟨rfl,t,rfl,ht,hw⟩
   refine ⟨fun hx=>?_,fun hx=>?_⟩
   ·intro r hr
    subst hr
    unfold VC44_J3
    refine ⟨fun PZ=>?_,fun P1=>?_⟩
    ·rw [wrp (by omega) (by omega)]
     refine ⟨⟨rfl,t+1,by simp,by omega,fun y hy=>?_⟩,by dsimp only; omega⟩
     by_cases PT:y < t
     ·exact hw y PT
     ·rw [show y=t by omega]; exact PZ
    ·unfold VC44_J2
     refine ⟨fun he=>?_,fun _=>⟨?_,⟨k,?_,?_⟩,?_⟩⟩
     ·rw [beq_iff_eq] at he; omega
     ·simp only [List.length_cons,List.length_nil]; omega
     ·simp only [List.length_append,List.length_cons,List.length_nil]; omega
     ·rw [← jE,iu,Ee hx P1 hw]
     ·simp only [List.length_append,List.length_cons,List.length_nil]; omega
   ·have:(t:Int)=n:=by omega
    unfold VC44_J3
    refine ⟨(fun h=>by cases h),fun _=>?_⟩
    unfold VC44_J2
    refine ⟨fun _=>?_,fun he=>?_⟩
    ·rw [← jE,iu,Ed (fun y hy=>hw y (by omega))]
    ·rw [this] at he; simp at he
  ·have:k=0:=by omega
   subst this
   unfold VC44_J1
   rw [← jE]; rfl
end Go.Proofs.YteahldlmkheleaaGreat
