/- Lemmas. -/
import Derived.Test.YteahldlmkheleaaGreatLV20
set_option linter.all false
namespace Go.Proofs.YteahldlmkheleaaGreat
open Go Go.Sv Go.Pu
theorem v27:VC27 (fun r=>r=du):=rfl
theorem v22 (o:Int):VC22 o (fun r=>r=cz o):=by
 unfold VC22
 rintro _ rfl _ _ rfl _
 rfl
theorem v11 (h:ak) (hp:lh h):VC11 h (fun r=>r=dg h):=by
 unfold VC11 lh at *
 intro _ _
 refine ⟨fun out x=>∃ k:Nat,x=k∧k≤h.al.length∧out=(h.al.take k).map (fun x=>(⟨x.ax,x.aI⟩:az)),fun _ x=>(h.al.length - x).toNat,⟨0,rfl,by omega,rfl⟩,?_⟩
 rintro _ _ ⟨k,rfl,hk,rfl⟩
 refine ⟨fun hi=>?_,fun hi=>?_⟩
 ·rw [decide_eq_true_eq] at hi
  rw [wrp (n:=(k:Int)+1) (by omega) (by omega)]
  refine ⟨⟨by omega,hi⟩,⟨by omega,hi⟩,by simp; omega,⟨k+1,by push_cast; rfl,by omega,?_⟩,by dsimp only; omega⟩
  rw [eJ (by omega),List.map_append]; rfl
 ·rw [decide_eq_false_iff_not] at hi
  unfold VC11_J1 dg
  rw [List.take_of_length_le (by omega)]
theorem v7 (h:ak):VC7 h (fun r=>r=ff h):=by
 unfold VC7
 intro _ hs
 simp only [sm] at hs
 refine ⟨fun n x=>∃ k:Nat,x=k∧k≤h.al.length∧n=(((h.al.take k).countP (fun x=>x.aI.bh == 1):Nat):Int),fun _ x=>(h.al.length - x).toNat,⟨0,rfl,by omega,rfl⟩,?_⟩
 rintro _ _ ⟨k,rfl,hk,rfl⟩
 have hc:=List.countP_le_length (p:=fun x:aR=>x.aI.bh == 1) (l:=h.al.take k)
 rw [List.length_take] at hc
 refine ⟨fun hi=>?_,fun hi=>?_⟩
 ·rw [decide_eq_true_eq] at hi
  refine ⟨⟨by omega,hi⟩,fun hw=>?_,fun hw=>?_⟩ <;> unfold VC7_J2 <;> rw [wrp (n:=(k:Int)+1) (by omega) (by omega)] <;> refine ⟨⟨k+1,by push_cast; rfl,by omega,?_⟩,by dsimp only; omega⟩
  ·rw [wrp (by omega) (by omega),eJ (by omega),List.countP_append,List.countP_cons,if_pos hw]; simp
  ·rw [eJ (by omega),List.countP_append,List.countP_cons,if_neg (by rw [hw]; decide)]; simp
 ·rw [decide_eq_false_iff_not] at hi
  unfold VC7_J1 ff
  rw [List.take_of_length_le (by omega)]
theorem v6 (h:ak):VC6 h (fun r=>r=gQ h):=by
 unfold VC6
 intro hs _
 simp only [sm] at hs
 refine ⟨fun h1=>?_,fun h1=>?_⟩
 ·unfold gQ
  have:¬ (h.ah.length≤10∧h.al.length≤20):=by simp at h1; omega
  by_cases a:h.ah.length≤10
  ·rw [decide_eq_true a,decide_eq_false (fun b=>this ⟨a,b⟩)]; rfl
  ·rw [decide_eq_false a]; rfl
 ·have h1:h.ah.length≤10∧h.al.length≤20:=by simp at h1; omega
  unfold gQ
  rw [decide_eq_true h1.1,decide_eq_true h1.2,Bool.true_and,Bool.true_and]
  refine ⟨fun x=>∃ k:Nat,x=k∧k≤h.ah.length∧∀ y:Nat,y < k→gR (gi h.ah (y:Int))=true,fun x=>(h.ah.length - x).toNat,⟨0,rfl,by omega,fun y hy=>by omega⟩,?_⟩
  rintro _ ⟨k,rfl,hk,hb⟩
  refine ⟨fun hi=>?_,fun hi=>?_⟩
  ·rw [decide_eq_true_eq] at hi
   refine ⟨⟨by omega,hi⟩,fun _=>?_⟩
   rintro _ rfl
   refine ⟨fun hf=>?_,fun hf=>?_⟩
   ·refine Eq.symm ?_
    rw [List.all_eq_false]
    exact ⟨_,e7 (by omega) hi,by simpa using hf⟩
   ·rw [wrp (n:=(k:Int)+1) (by omega) (by omega)]
    refine ⟨⟨k+1,by push_cast; rfl,by omega,fun y hy=>?_⟩,by dsimp only; omega⟩
    by_cases e:y=k
    ·subst e; simpa using hf
    ·exact hb y (by omega)
  ·rw [decide_eq_false_iff_not] at hi
   unfold VC6_J1
   refine Eq.symm ?_
   rw [List.all_eq_true]
   intro x hx
   obtain ⟨i,Em,rfl⟩:=List.getElem_of_mem hx
   have:=hb i (by omega)
   rwa [cN _ _ Em] at this
theorem g8 (o:Int):gg (cz o):=by
 have hf:kx du:=by unfold kx inR; decide
 refine ⟨fun x hx=>?_,by show (4:Nat)≤1000000; decide,fun x hx=>?_⟩
 ·have:x=du:=by
   unfold cz at hx; simpa using hx
  rw [this]; exact hf
 ·have:x=du:=by
   unfold cz at hx; simpa using hx
  rw [this]; decide
theorem DY {os:List ae} {a b:List aR} (h:gg ⟨os,a⟩) (hb:b.length≤1000000):gg ⟨os,b⟩:=⟨h.1,hb,h.2.2⟩
theorem v8:VC8 (fun r=>r=gE):=by
 unfold VC8
 rintro _ rfl _ _
 refine ⟨g8 0,?_⟩
 rintro _ rfl _ rfl _ _
 refine ⟨g8 1,?_⟩
 rintro _ rfl _ rfl _ _
 refine ⟨g8 0,?_⟩
 rintro _ rfl _ _ rfl _ _
 refine ⟨g8 1,?_⟩
 rintro _ rfl _ _ rfl _ _
 refine ⟨g8 0,?_⟩
 rintro _ rfl
 refine ⟨⟨(fun x hx=>by cases hx),by decide,(fun x hx=>by cases hx)⟩,?_⟩
 rintro _ rfl _ rfl _ _
 refine ⟨by decide,DY (g8 0) (by decide),?_⟩
 rintro _ rfl _ rfl _ _
 refine ⟨g8 1,?_⟩
 rintro _ rfl _ _ _ rfl _ _
 refine ⟨g8 1,?_⟩
 rintro _ rfl _ _
 refine ⟨fun _=>?_,fun h=>?_⟩
 ·rintro _ rfl _ _
  refine ⟨⟨g8 0,by decide +kernel⟩,?_⟩
  rintro _ rfl
  refine ⟨fun _=>?_,fun h=>?_⟩
  ·rintro _ rfl
   refine ⟨fun _=>?_,fun h=>?_⟩
   ·rintro _ rfl _ _ rfl
    refine ⟨fun _=>?_,fun h=>?_⟩
    ·rintro _ rfl _ _
     refine ⟨⟨g8 0,by decide⟩,?_⟩
     rintro _ rfl
     decide +kernel
    ·exfalso; revert h; decide +kernel
   ·exfalso; revert h; decide +kernel
  ·exfalso; revert h; decide +kernel
 ·exfalso; revert h; decide +kernel
end Go.Proofs.YteahldlmkheleaaGreat
