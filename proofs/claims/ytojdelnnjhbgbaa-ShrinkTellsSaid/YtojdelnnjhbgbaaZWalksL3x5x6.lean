/- Walks: each function returns what its condition asks. Condition: the contracts of its callees, handed in. -/
import Derived.Test.YtojdelnnjhbgbaaZWalksS
set_option linter.all false
namespace Go.Proofs.Ytojdelnnjhbgbaa
open Go Go.Sv
set_option maxHeartbeats 1000000
theorem W20 (w0) (X0) (o_ : Api_Object) (a1) (c1) (Q : Bool -> Prop) (hm : VC20 o_ Q) (h1 : RS tApi_Row w0 X0 a1 o_.Rows c1) :
  Ret Try.prog 20 #[.agg #[.int .i64 o_.States, .int .i64 o_.Kinds, .int .i64 o_.Init, .slice a1 o_.Rows.length c1]] xnone w0 X0 (fun w X' v => ∃ r, Q r /\ v = .bool r) := by
 unfold VC20 at hm
 replace hm := hm (h1.sm kr)
 refine enter Try.func20 rfl (vals := [.agg #[.int .i64 o_.States, .int .i64 o_.Kinds, .int .i64 o_.Init, .slice a1 o_.Rows.length c1]]) kr ?_
 intro Z a hS hO hM
 replace h1 := h1.m0 hM
 refine rM T hS ⟨[(1, Pt 2 0)], [(2, (24, (cO o_ a1 c1)))]⟩ fun Z a w101 X102 hS hE hr => ?_
 replace hO := hO.m2 hE
 replace h1 := h1.m1 hE
 clear hE hr
 refine rP T hS ⟨[(2, B (decide ((lN o_.Rows) ≤ 300)))], []⟩ fun a hS => ?_
 refine wret ?_
 exact fin T hS hO (fun c => c) rfl (r := [.bool (decide ((lN o_.Rows) ≤ 300))]) kr (fun X' hM hC => ⟨(decide ((lN o_.Rows) ≤ 300)), hm, rfl⟩)
theorem C20 (v : ∀ (o_ : Api_Object), VC20 o_ (fun r => r = law23_Few o_)) : S20 := by
 intro w X o_ a1 c1   h1
 refine (W20 w X o_ a1 c1   _ (v o_) h1).mono ?_
 rintro _ _ _ _ ⟨r, rfl, h⟩
 exact h
theorem W7 (k20 : S20) (w0) (X0) (o_ : Api_Object) (l_ : List Api_Event) (a1) (c1) (a2) (c2) (Q : Bool -> Prop) (hm : VC7 o_ l_ Q) (h1 : RS tApi_Row w0 X0 a1 o_.Rows c1) (h2 : RS tApi_Event w0 X0 a2 l_ c2) :
  Ret Try.prog 7 #[.agg #[.int .i64 o_.States, .int .i64 o_.Kinds, .int .i64 o_.Init, .slice a1 o_.Rows.length c1], .slice a2 l_.length c2] xnone w0 X0 (fun w X' v => ∃ r, Q r /\ v = .bool r) := by
 unfold VC7 at hm
 replace hm := hm (h1.sm kr)
 replace hm := hm (h2.sm kr)
 refine enter Try.func7 rfl (vals := [.agg #[.int .i64 o_.States, .int .i64 o_.Kinds, .int .i64 o_.Init, .slice a1 o_.Rows.length c1], .slice a2 l_.length c2]) kr ?_
 intro Z a hS hO hM
 replace h1 := h1.m0 hM
 replace h2 := h2.m0 hM
 refine rM T hS ⟨[(1, Sl a2 l_ c2), (2, Pt 3 0)], [(3, (24, (cO o_ a1 c1)))]⟩ fun Z a w105 X106 hS hE hr => ?_
 replace hO := hO.m2 hE
 replace h1 := h1.m1 hE
 replace h2 := h2.m1 hE
 clear hE hr
 refine regO ?_
 refine oP T hS 1 ⟨[(1, Sl a2 l_ c2), (5, V (.agg #[.int .i64 o_.States, .int .i64 o_.Kinds, .int .i64 o_.Init, .slice a1 o_.Rows.length c1]))], []⟩ fun a hS => ?_
 refine op1 (call hS kr kr hb20 kr (fun _ _ => rfl) (k20 _ _ o_ a1 c1 h1) ?_)
 intro v101 a w102 X103 hE hp hS
 replace hO := hO.m2 hE
 replace h1 := h1.m1 hE
 replace h2 := h2.m1 hE
 obtain ⟨r104, hr⟩ : ∃ r, law23_Few o_ = r := ⟨_, rfl⟩
 replace hm := hm r104 hr
 rw [hr] at hp
 clear hr
 subst hp
 refine ePb T hS [(4, B (r104 && (decide ((lN l_) ≤ 10))))] (sp := [7]) fun a hS => ?_
 refine wret ?_
 exact fin T hS hO (fun c => c) rfl (r := [.bool (r104 && (decide ((lN l_) ≤ 10)))]) kr (fun X' hM hC => ⟨(r104 && (decide ((lN l_) ≤ 10))), hm, rfl⟩)
theorem C7 (k20 : S20) (v : ∀ (o_ : Api_Object) (l_ : List Api_Event), VC7 o_ l_ (fun r => r = law41_few o_ l_)) : S7 := by
 intro w X o_ l_ a1 c1 a2 c2   h1 h2
 refine (W7 k20 w X o_ l_ a1 c1 a2 c2   _ (v o_ l_) h1 h2).mono ?_
 rintro _ _ _ _ ⟨r, rfl, h⟩
 exact h
end Go.Proofs.Ytojdelnnjhbgbaa
