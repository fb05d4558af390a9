/- Walks: each function returns what its condition asks. Condition: the contracts of its callees, handed in. -/
import Derived.Test.YtcjldfbgccmpkaaDoorHWalksS
set_option linter.all false
namespace Go.Proofs.YtcjldfbgccmpkaaDoor
open Go Go.Sv
set_option maxHeartbeats 1000000
/-- replevin/replevinlaw23.Few -/
theorem W11 (w0 : World) (χ0 : Nat → Nat) (o_ : Api_Object) (a1 : Option Addr) (c1 : Nat) (Q : Bool → Prop) (hm : VC11 o_ Q) (h1 : RS tApi_Row w0 χ0 a1 o_.Rows c1) :
  Ret Tryd.prog 11 #[.agg #[.int .i64 o_.States, .int .i64 o_.Kinds, .int .i64 o_.Init, .slice a1 o_.Rows.length c1]] xnone w0 χ0 (fun w χ' v => ∃ r, Q r ∧ v = .bool r) := by
 unfold VC11 at hm
 replace hm := hm (h1.sm kr)
 refine enter Tryd.func11 rfl (vals := [.agg #[.int .i64 o_.States, .int .i64 o_.Kinds, .int .i64 o_.Init, .slice a1 o_.Rows.length c1]]) kr ?_
 intro ρ a hS hO hM
 replace h1 := h1.m0 hM
 clear hM
 refine regM T hS (sp := []) (ks := [1]) (bs := [2]) (sy' := ⟨[(1, Pt 2 0)], [(2, (25, [I o_.States, I o_.Kinds, I o_.Init, V (.slice a1 o_.Rows.length c1)]))]⟩) kr ?_
 intro ρ a w101 χ102 hS hE hr
 replace hO := hO.mv hE rfl rfl
 replace h1 := h1.mv hE rfl
 clear hE hr
 refine regP T hS (sp := []) (ks := [2]) (bs := []) (sy' := ⟨[(2, B (decide (((o_.Rows.length : Nat) : Int) ≤ 300)))], []⟩) kr ?_
 intro a hS
 refine wret ?_
 exact fin T hS hO (fun c => c) rfl (r := [.bool (decide (((o_.Rows.length : Nat) : Int) ≤ 300))]) kr (fun χ' hM hC => ⟨(decide (((o_.Rows.length : Nat) : Int) ≤ 300)), hm, rfl⟩)
theorem C11 (v : ∀ (o_ : Api_Object), VC11 o_ (fun r => r = law23_Few o_)) : S11 := by
 intro w χ o_ a1 c1   h1
 refine (W11 w χ o_ a1 c1   _ (v o_) h1).mono ?_
 rintro _ _ _ _ ⟨r, rfl, h⟩
 exact h
end Go.Proofs.YtcjldfbgccmpkaaDoor
