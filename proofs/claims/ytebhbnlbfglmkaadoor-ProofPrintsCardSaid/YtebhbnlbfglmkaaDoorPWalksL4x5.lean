/- Walks: each function returns what its condition asks. Condition: the contracts of its callees, handed in. -/
import Derived.Test.YtebhbnlbfglmkaaDoorPWalksS
set_option linter.all false
namespace Go.Proofs.YtebhbnlbfglmkaaDoor
open Go Go.Sv
set_option maxHeartbeats 1000000
/-- replevin/replevinlaw10.Few -/
theorem W11 (w0 : World) (χ0 : Nat → Nat) (l_ : List Api_Step) (a1 : Option Addr) (c1 : Nat) (Q : Bool → Prop) (hm : VC11 l_ Q) (h1 : RS tApi_Step w0 χ0 a1 l_ c1) :
  Ret Tryd.prog 11 #[.slice a1 l_.length c1] xnone w0 χ0 (fun w χ' v => ∃ r, Q r ∧ v = .bool r) := by
 unfold VC11 at hm
 replace hm := hm (h1.sm kr)
 refine enter Tryd.func11 rfl (vals := [.slice a1 l_.length c1]) kr ?_
 intro ρ a hS hO hM
 replace h1 := h1.m0 hM
 clear hM
 refine rP T hS ⟨[(0, Sl a1 l_ c1)], []⟩ fun a hS => ?_
 refine wseq ?_
 refine rP T hS ⟨[(0, Sl a1 l_ c1), (6, B (decide (((l_.length : Nat) : Int) > 200)))], []⟩ fun a hS => ?_
 refine wcond hS (b := decide (((l_.length : Nat) : Int) > 200)) kr (fun hb => ?_) (fun hb => ?_)
 ·replace hm := hm.1 hb
  refine rP T hS ⟨[(2, B false)], []⟩ fun a hS => ?_
  refine wret ?_
  exact fin T hS hO (fun c => c) rfl (r := [.bool false]) kr (fun χ' hM hC => ⟨false, hm, rfl⟩)
 ·replace hm := hm.2 hb
  refine wskip ?_
  refine wcut (fun a w => ∃ (ρ : Nat → Nat) (χ : Nat → Nat), VC11_J1 Q ∧ St Tryd.f11.ntmps ⟨[], []⟩ ρ a w χ ∧ Old w0 χ0 w χ) ?_ ?_
  ·refine rP T hS ⟨[(0, Sl a1 l_ c1), (3, I 0)], []⟩ fun a hS => ?_
   refine wblock ?_
   obtain ⟨I1, μ1, hm0, hm⟩ := hm
   refine wloop (σ := Int) (fun s a w => ∃ (ρ : Nat → Nat) (χ : Nat → Nat), I1 s ∧ St Tryd.f11.ntmps ⟨[(0, Sl a1 l_ c1), (3, I s)], []⟩ ρ a w χ ∧ Old w0 χ0 w χ ∧ RS tApi_Step w χ a1 l_ c1) (fun s => μ1 s) (0) ?_ ?_
   ·exact ⟨ρ, _, hm0, hS.sl _, hO, h1⟩
   ·rintro i_102 a w124 ⟨ρ, χ123, hI, hS, hO, h101⟩
    replace hm := hm i_102 hI
    clear hI hm0
    refine wseq ?_
    refine rP T hS ⟨[(0, Sl a1 l_ c1), (3, I i_102), (10, B (decide (i_102 < ((l_.length : Nat) : Int))))], []⟩ fun a hS => ?_
    refine wcond hS (b := decide (i_102 < ((l_.length : Nat) : Int))) kr (fun hb => ?_) (fun hb => ?_)
    ·replace hm := hm.1 hb
     refine wskip ?_
     refine wseq ?_
     refine wblock ?_
     refine wcut (fun a w => ∃ (ρ : Nat → Nat) (χ : Nat → Nat) (x_104 : Bool), VC11_J2 Q I1 μ1 i_102 x_104 ∧ St Tryd.f11.ntmps ⟨[(0, Sl a1 l_ c1), (3, I i_102), (28, B x_104)], []⟩ ρ a w χ ∧ Old w0 χ0 w χ ∧ RS tApi_Step w χ a1 l_ c1) ?_ ?_
     ·refine region ?_
      refine oP T hS 2 ⟨[(0, Sl a1 l_ c1), (3, I i_102), (13, Sl a1 l_ c1), (14, I i_102)], []⟩ fun a hS => ?_
      obtain ⟨hq, hm⟩ := hm
      refine op1 (index (e := 52) (k := .i64) T hS kr kr kr kr h101 kr kr hq.1 hq.2 ?_)
      intro A105 a h106 hS
      clear hq
      refine op1 (fieldA (off := 2) (fsz := 1) (ft := 31) (TF := (tSlice tI)) (y := (gi l_ i_102).Lits) T hS kr kr kr h106 kr kr kr (fun cs h => Api_Step_f2 h) ?_)
      intro A107 a h108 hS
      refine op1 (load1 T hS kr kr kr h108 rfl kr ?_)
      intro v109 a hv hS
      obtain ⟨a110, c111, hv, h112⟩ := hv
      cases hv
      replace hm := hm (h112.sm kr)
      refine oP T hS 3 ⟨[(0, Sl a1 l_ c1), (3, I i_102), (20, B (decide (((((gi l_ i_102).Lits).length : Nat) : Int) > 60)))], []⟩ fun a hS => ?_
      rcases Bool.eq_false_or_eq_true (decide (((((gi l_ i_102).Lits).length : Nat) : Int) > 60)) with hb | hb
      ·replace hS := hS.lit (t := 20) kr hb
       replace hm := hm.1 hb
       refine eP T hS ⟨[(0, Sl a1 l_ c1), (3, I i_102), (28, B true)], []⟩ fun a hS => ?_
       exact ⟨ρ, _, true, hm, hS.sl _, hO, h101⟩
      ·replace hS := hS.lit (t := 20) kr hb
       replace hm := hm.2 hb
       refine oP T hS 2 ⟨[(0, Sl a1 l_ c1), (3, I i_102), (20, B false), (21, Sl a1 l_ c1), (22, I i_102)], []⟩ fun a hS => ?_
       obtain ⟨hq, hm⟩ := hm
       refine op1 (index (e := 52) (k := .i64) T hS kr kr kr kr h101 kr kr hq.1 hq.2 ?_)
       intro A113 a h114 hS
       clear hq
       refine op1 (fieldA (off := 3) (fsz := 1) (ft := 31) (TF := (tSlice tI)) (y := (gi l_ i_102).Hints) T hS kr kr kr h114 kr kr kr (fun cs h => Api_Step_f3 h) ?_)
       intro A115 a h116 hS
       refine op1 (load1 T hS kr kr kr h116 rfl kr ?_)
       intro v117 a hv hS
       obtain ⟨a118, c119, hv, h120⟩ := hv
       cases hv
       replace hm := hm (h120.sm kr)
       refine eP T hS ⟨[(0, Sl a1 l_ c1), (3, I i_102), (21, Sl a1 l_ c1), (22, I i_102), (23, V (.pointer (some A113))), (24, V (.pointer (some A115))), (25, Sl a118 ((gi l_ i_102).Hints) c119), (26, I ((((gi l_ i_102).Hints).length : Nat) : Int)), (27, B (decide (((((gi l_ i_102).Hints).length : Nat) : Int) > 200))), (28, B (decide (((((gi l_ i_102).Hints).length : Nat) : Int) > 200)))], []⟩ fun a hS => ?_
       exact ⟨ρ, _, decide (((((gi l_ i_102).Hints).length : Nat) : Int) > 200), hm, hS.sl _, hO, h101⟩
     ·rintro a w122 ⟨ρ, χ121, x_104, hm, hS, hO, h103⟩
      unfold VC11_J2 at hm
      refine wcond hS (b := x_104) kr (fun hb => ?_) (fun hb => ?_)
      ·replace hm := hm.1 hb
       refine rP T hS ⟨[(2, B false)], []⟩ fun a hS => ?_
       refine wret ?_
       exact fin T hS hO (fun c => c) rfl (r := [.bool false]) kr (fun χ' hM hC => ⟨false, hm, rfl⟩)
      ·replace hm := hm.2 hb
       refine wskip ?_
       refine region (eP T hS ⟨[(0, Sl a1 l_ c1), (3, I (IntKind.i64.wrap (i_102 + 1)))], []⟩ fun a hS => ?_)
       exact ⟨IntKind.i64.wrap (i_102 + 1), ⟨ρ, _, hm.1, hS.sl _, hO, h103⟩, hm.2⟩
    ·replace hm := hm.2 hb
     refine wexit (by rfl) ?_
     exact ⟨ρ, _, hm, hS.sl _, hO⟩
  ·rintro a w126 ⟨ρ, χ125, hm, hS, hO⟩
   unfold VC11_J1 at hm
   refine rP T hS ⟨[(2, B true)], []⟩ fun a hS => ?_
   refine wret ?_
   exact fin T hS hO (fun c => c) rfl (r := [.bool true]) kr (fun χ' hM hC => ⟨true, hm, rfl⟩)
theorem C11 (v : ∀ (l_ : List Api_Step), VC11 l_ (fun r => r = law10_Few l_)) : S11 := by
 intro w χ l_ a1 c1   h1
 refine (W11 w χ l_ a1 c1   _ (v l_) h1).mono ?_
 rintro _ _ _ _ ⟨r, rfl, h⟩
 exact h
end Go.Proofs.YtebhbnlbfglmkaaDoor
