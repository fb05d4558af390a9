/- Walks: each function returns what its condition asks. Condition: the contracts of its callees, handed in. -/
import Derived.Test.YtancoeikfkebfaaDoorMWalksS
set_option linter.all false
namespace Go.Proofs.YtancoeikfkebfaaDoor
open Go Go.Sv
set_option maxHeartbeats 1000000
/-- replevin/replevinlaw04.Few -/
theorem W11 (w0 : World) (χ0 : Nat → Nat) (f_ : Api_Formula) (a1 : Option Addr) (c1 : Nat) (Q : Bool → Prop) (hm : VC11 f_ Q) (h1 : RS (tSlice tI) w0 χ0 a1 f_.Clauses c1) :
  Ret Tryd.prog 11 #[.agg #[.int .i64 f_.Vars, .slice a1 f_.Clauses.length c1]] xnone w0 χ0 (fun w χ' v => ∃ r, Q r ∧ v = .bool r) := by
 unfold VC11 at hm
 replace hm := hm (h1.sm kr)
 refine enter Tryd.func11 rfl (vals := [.agg #[.int .i64 f_.Vars, .slice a1 f_.Clauses.length c1]]) kr ?_
 intro ρ a hS hO hM
 replace h1 := h1.m0 hM
 clear hM
 refine rM T hS ⟨[(1, Pt 2 0)], [(2, (25, [I f_.Vars, Sl a1 f_.Clauses c1]))]⟩ fun ρ a w113 χ114 hS hE hr => ?_
 replace hO := hO.mv hE rfl rfl
 replace h1 := h1.mv hE rfl
 clear hE hr
 refine wseq ?_
 refine rP T hS ⟨[(1, Pt 2 0), (7, B (decide (((f_.Clauses.length : Nat) : Int) > 200)))], [(2, (25, [I f_.Vars, Sl a1 f_.Clauses c1]))]⟩ fun a hS => ?_
 refine wcond hS (b := decide (((f_.Clauses.length : Nat) : Int) > 200)) kr (fun hb => ?_) (fun hb => ?_)
 ·replace hm := hm.1 hb
  refine rP T hS ⟨[(2, B false)], []⟩ fun a hS => ?_
  refine wret ?_
  exact fin T hS hO (fun c => c) rfl (r := [.bool false]) kr (fun χ' hM hC => ⟨false, hm, rfl⟩)
 ·replace hm := hm.2 hb
  refine wskip ?_
  refine wcut (fun a w => ∃ (ρ : Nat → Nat) (χ : Nat → Nat), VC11_J1 Q ∧ St Tryd.f11.ntmps ⟨[], []⟩ ρ a w χ ∧ Old w0 χ0 w χ) ?_ ?_
  ·refine rP T hS ⟨[(1, Pt 2 0), (3, I 0)], [(2, (25, [I f_.Vars, Sl a1 f_.Clauses c1]))]⟩ fun a hS => ?_
   refine wblock ?_
   obtain ⟨I1, μ1, hm0, hm⟩ := hm
   refine wloop (σ := Int) (fun s a w => ∃ (ρ : Nat → Nat) (χ : Nat → Nat), I1 s ∧ St Tryd.f11.ntmps ⟨[(1, Pt 2 0), (3, I s)], [(2, (25, [I f_.Vars, Sl a1 f_.Clauses c1]))]⟩ ρ a w χ ∧ Old w0 χ0 w χ ∧ RS (tSlice tI) w χ a1 f_.Clauses c1) (fun s => μ1 s) (0) ?_ ?_
   ·exact ⟨ρ, _, hm0, hS.sl _, hO, h1⟩
   ·rintro i_101 a w110 ⟨ρ, χ109, hI, hS, hO, h102⟩
    replace hm := hm i_101 hI
    clear hI hm0
    refine wseq ?_
    refine rP T hS ⟨[(1, Pt 2 0), (3, I i_101), (12, B (decide (i_101 < ((f_.Clauses.length : Nat) : Int))))], [(2, (25, [I f_.Vars, Sl a1 f_.Clauses c1]))]⟩ fun a hS => ?_
    refine wcond hS (b := decide (i_101 < ((f_.Clauses.length : Nat) : Int))) kr (fun hb => ?_) (fun hb => ?_)
    ·replace hm := hm.1 hb
     refine wskip ?_
     refine wseq ?_
     refine wblock ?_
     refine regO ?_
     refine oP T hS 3 ⟨[(1, Pt 2 0), (3, I i_101), (16, Sl a1 f_.Clauses c1), (17, I i_101)], [(2, (25, [I f_.Vars, Sl a1 f_.Clauses c1]))]⟩ fun a hS => ?_
     obtain ⟨hq, hm⟩ := hm
     refine op1 (index (e := 49) (k := .i64) T hS kr kr kr kr h102 kr kr hq.1 hq.2 ?_)
     intro A103 a h104 hS
     clear hq
     refine op1 (load1 T hS kr kr kr h104 rfl kr ?_)
     intro v105 a hv hS
     obtain ⟨a106, c107, hv, h108⟩ := hv
     cases hv
     replace hm := hm (h108.sm kr)
     refine eP T hS ⟨[(1, Pt 2 0), (3, I i_101), (21, B (decide ((((gi f_.Clauses i_101).length : Nat) : Int) > 50)))], [(2, (25, [I f_.Vars, Sl a1 f_.Clauses c1]))]⟩ fun a hS => ?_
     refine wcond hS (b := decide ((((gi f_.Clauses i_101).length : Nat) : Int) > 50)) kr (fun hb => ?_) (fun hb => ?_)
     ·replace hm := hm.1 hb
      refine rP T hS ⟨[(2, B false)], []⟩ fun a hS => ?_
      refine wret ?_
      exact fin T hS hO (fun c => c) rfl (r := [.bool false]) kr (fun χ' hM hC => ⟨false, hm, rfl⟩)
     ·replace hm := hm.2 hb
      refine wskip ?_
      refine region (eP T hS ⟨[(1, Pt 2 0), (3, I (IntKind.i64.wrap (i_101 + 1)))], [(2, (25, [I f_.Vars, Sl a1 f_.Clauses c1]))]⟩ fun a hS => ?_)
      exact ⟨IntKind.i64.wrap (i_101 + 1), ⟨ρ, _, hm.1, hS.sl _, hO, h102⟩, hm.2⟩
    ·replace hm := hm.2 hb
     refine wexit (by rfl) ?_
     exact ⟨ρ, _, hm, hS.sl _, hO⟩
  ·rintro a w112 ⟨ρ, χ111, hm, hS, hO⟩
   unfold VC11_J1 at hm
   refine rP T hS ⟨[(2, B true)], []⟩ fun a hS => ?_
   refine wret ?_
   exact fin T hS hO (fun c => c) rfl (r := [.bool true]) kr (fun χ' hM hC => ⟨true, hm, rfl⟩)
theorem C11 (v : ∀ (f_ : Api_Formula), VC11 f_ (fun r => r = law04_Few f_)) : S11 := by
 intro w χ f_ a1 c1   h1
 refine (W11 w χ f_ a1 c1   _ (v f_) h1).mono ?_
 rintro _ _ _ _ ⟨r, rfl, h⟩
 exact h
end Go.Proofs.YtancoeikfkebfaaDoor
