/- bh the law reaches I0; it is MJ. -/
import Derived.Test.YteahldlmkheleaaGreatLV20
set_option linter.all false
namespace Go.Proofs.YteahldlmkheleaaGreat
open Go Go.Sv Go.Pu
theorem v27:VC27 (fun r=>r=dm):=rfl
theorem v22 (o:Int):VC22 o (fun r=>r=cr o):=by
 unfold VC22
 rintro _ rfl _ _ rfl _
 rfl
theorem v11 (h:aj) (hp:kD h):VC11 h (fun r=>r=eV h):=by
 unfold VC11 kD at *
 intro _ _
 refine ⟨fun out x=>∃ k:Nat,x=k∧k≤h.ak.length∧out=(h.ak.take k).map (fun x=>(⟨x.aw,x.aK⟩:aH)),fun _ x=>(h.ak.length - x).toNat,⟨0,rfl,by omega,rfl⟩,?_⟩
 rintro _ _ ⟨k,rfl,hk,rfl⟩
 refine ⟨fun hi=>?_,fun hi=>?_⟩
 ·rw [decide_eq_true_eq] at hi
  rw [wrp (n:=(k:Int)+1) (by omega) (by omega)]
  refine ⟨⟨by omega,hi⟩,⟨by omega,hi⟩,by simp; omega,⟨k+1,by push_cast; rfl,by omega,?_⟩,by dsimp only; omega⟩
  rw [eE (by omega),List.map_append]; rfl
 ·rw [decide_eq_false_iff_not] at hi
  unfold VC11_J1 eV
  rw [List.take_of_length_le (by omega)]
theorem v7 (h:aj):VC7 h (fun r=>r=eY h):=by
 unfold VC7
 intro _ hs
 simp only [sm] at hs
 refine ⟨fun n x=>∃ k:Nat,x=k∧k≤h.ak.length∧n=(((h.ak.take k).countP (fun x=>x.aK.bh == 1):Nat):Int),fun _ x=>(h.ak.length - x).toNat,⟨0,rfl,by omega,rfl⟩,?_⟩
 rintro _ _ ⟨k,rfl,hk,rfl⟩
 have hc:=List.countP_le_length (p:=fun x:aR=>x.aK.bh == 1) (l:=h.ak.take k)
 rw [List.length_take] at hc
 refine ⟨fun hi=>?_,fun hi=>?_⟩
 ·rw [decide_eq_true_eq] at hi
  refine ⟨⟨by omega,hi⟩,fun hw=>?_,fun hw=>?_⟩ <;> unfold VC7_J2 <;> rw [wrp (n:=(k:Int)+1) (by omega) (by omega)] <;> refine ⟨⟨k+1,by push_cast; rfl,by omega,?_⟩,by dsimp only; omega⟩
  ·rw [wrp (by omega) (by omega),eE (by omega),List.countP_append,List.countP_cons,if_pos hw]; simp
  ·rw [eE (by omega),List.countP_append,List.countP_cons,if_neg (by rw [hw]; decide)]; simp
 ·rw [decide_eq_false_iff_not] at hi
  unfold VC7_J1 eY
  rw [List.take_of_length_le (by omega)]
theorem ru (w:List Int) (i:Int):∀ t:Nat,0≤iX w i t∧iX w i t≤t
 | 0=>by simp [iX]
 | t+1=>by
  have:=ru w i t
  rw [iX]
  split <;> omega
theorem v19 (w:List Int) (i:Int) (hp:xq w i):VC19 w i (fun r=>r=dV w i):=by
 obtain ⟨h0,h1⟩:=hp
 unfold VC19
 intro hs
 simp only [sm] at hs
 refine ⟨fun n x=>∃ k:Nat,x=k∧(k:Int)≤i∧n=iX w i k,fun _ x=>(i - x).toNat,⟨0,rfl,by omega,rfl⟩,?_⟩
 rintro _ _ ⟨k,rfl,hk,rfl⟩
 have hr:=ru w i k
 refine ⟨fun hi=>?_,fun hi=>?_⟩
 ·rw [decide_eq_true_eq] at hi
  refine ⟨⟨by omega,by omega⟩,⟨h0,h1⟩,fun hw=>?_,fun hw=>?_⟩ <;> unfold VC19_J2 <;> rw [wrp (n:=(k:Int)+1) (by omega) (by omega)] <;> refine ⟨⟨k+1,by push_cast; rfl,by omega,?_⟩,by dsimp only; omega⟩
  ·rw [wrp (by omega) (by omega),iX,if_pos (by simpa using hw)]
  ·rw [iX,if_neg (by simpa using hw)]; omega
 ·rw [decide_eq_false_iff_not] at hi
  have:i.toNat=k:=by omega
  unfold VC19_J1 dV
  rw [this]
theorem v6 (h:aj):VC6 h (fun r=>r=gQ h):=by
 unfold VC6
 intro hs _
 simp only [sm] at hs
 refine ⟨fun h1=>?_,fun h1=>?_⟩
 ·unfold gQ
  have:¬ (h.ae.length≤10∧h.ak.length≤20):=by simp at h1; omega
  by_cases a:h.ae.length≤10
  ·rw [decide_eq_true a,decide_eq_false (fun b=>this ⟨a,b⟩)]; rfl
  ·rw [decide_eq_false a]; rfl
 ·have h1:h.ae.length≤10∧h.ak.length≤20:=by simp at h1; omega
  unfold gQ
  rw [decide_eq_true h1.1,decide_eq_true h1.2,Bool.true_and,Bool.true_and]
  refine ⟨fun x=>∃ k:Nat,x=k∧k≤h.ae.length∧∀ y:Nat,y < k→gR (gi h.ae (y:Int))=true,fun x=>(h.ae.length - x).toNat,⟨0,rfl,by omega,fun y hy=>by omega⟩,?_⟩
  rintro _ ⟨k,rfl,hk,hb⟩
  refine ⟨fun hi=>?_,fun hi=>?_⟩
  ·rw [decide_eq_true_eq] at hi
   refine ⟨⟨by omega,hi⟩,fun _=>?_⟩
   rintro _ rfl
   refine ⟨fun hf=>?_,fun hf=>?_⟩
   ·refine Eq.symm ?_
    rw [List.all_eq_false]
    exact ⟨_,ep (by omega) hi,by simpa using hf⟩
   ·rw [wrp (n:=(k:Int)+1) (by omega) (by omega)]
    refine ⟨⟨k+1,by push_cast; rfl,by omega,fun y hy=>?_⟩,by dsimp only; omega⟩
    by_cases e:y=k
    ·subst e; simpa using hf
    ·exact hb y (by omega)
  ·rw [decide_eq_false_iff_not] at hi
   unfold VC6_J1
   refine Eq.symm ?_
   rw [List.all_eq_true]
   intro x hx
   obtain ⟨i,Bd,rfl⟩:=List.getElem_of_mem hx
   have:=hb i (by omega)
   rwa [cd _ _ Bd] at this
theorem gZ (o:Int):fV (cr o):=by
 have hf:jV dm:=by unfold jV inR; decide
 refine ⟨fun x hx=>?_,by show (4:Nat)≤1000000; decide,fun x hx=>?_⟩
 ·have:x=dm:=by
   unfold cr at hx; simpa using hx
  rw [this]; exact hf
 ·have:x=dm:=by
   unfold cr at hx; simpa using hx
  rw [this]; decide
theorem CK {os:List al} {a b:List aR} (h:fV ⟨os,a⟩) (hb:b.length≤1000000):fV ⟨os,b⟩:=⟨h.1,hb,h.2.2⟩
theorem v8:VC8 (fun r=>r=fu):=by
 unfold VC8
 rintro _ rfl _ _
 refine ⟨gZ 0,?_⟩
 rintro _ rfl _ rfl _ _
 refine ⟨gZ 1,?_⟩
 rintro _ rfl _ rfl _ _
 refine ⟨gZ 0,?_⟩
 rintro _ rfl _ _ rfl _ _
 refine ⟨gZ 1,?_⟩
 rintro _ rfl _ _ rfl _ _
 refine ⟨gZ 0,?_⟩
 rintro _ rfl
 refine ⟨⟨(fun x hx=>by cases hx),by decide,(fun x hx=>by cases hx)⟩,?_⟩
 rintro _ rfl _ rfl _ _
 refine ⟨by decide,CK (gZ 0) (by decide),?_⟩
 rintro _ rfl _ rfl _ _
 refine ⟨gZ 1,?_⟩
 rintro _ rfl _ _ _ rfl _ _
 refine ⟨gZ 1,?_⟩
 rintro _ rfl _ _
 refine ⟨fun _=>?_,fun h=>?_⟩
 ·rintro _ rfl _ _
  refine ⟨⟨gZ 0,by decide +kernel⟩,?_⟩
  rintro _ rfl
  refine ⟨fun _=>?_,fun h=>?_⟩
  ·rintro _ rfl
   refine ⟨fun _=>?_,fun h=>?_⟩
   ·rintro _ rfl _ _ rfl
    refine ⟨fun _=>?_,fun h=>?_⟩
    ·rintro _ rfl _ _
     refine ⟨⟨gZ 0,by decide⟩,?_⟩
     rintro _ rfl
     decide +kernel
    ·exfalso; revert h; decide +kernel
   ·exfalso; revert h; decide +kernel
  ·exfalso; revert h; decide +kernel
 ·exfalso; revert h; decide +kernel
end Go.Proofs.YteahldlmkheleaaGreat
