/- Walks: each function returns what its condition asks. Condition: the contracts of its callees, handed in. -/
import Derived.Test.YtojdelnnjhbgbaaZWalksS
set_option linter.all false
namespace Go.Proofs.Ytojdelnnjhbgbaa
open Go Go.Sv
set_option maxHeartbeats 1000000
theorem W5 (k10 : S10) (k12 : S12) (k7 : S7) (k8 : S8) (w0 : World) (χ0 : Nat → Nat) (o_ : Api_Object) (l_ : List Api_Event) (k_ : Int) (a1 : Option Addr) (c1 : Nat) (a2 : Option Addr) (c2 : Nat) (Q : Bool → Prop) (hm : VC5 o_ l_ k_ Q) (h1 : RS tApi_Row w0 χ0 a1 o_.Rows c1) (h2 : RS tApi_Event w0 χ0 a2 l_ c2) :
  Ret Try.prog 5 #[.agg #[.int .i64 o_.States, .int .i64 o_.Kinds, .int .i64 o_.Init, .slice a1 o_.Rows.length c1], .slice a2 l_.length c2, .int .i64 k_] xnone w0 χ0 (fun w χ' v => ∃ r, Q r ∧ v = .bool r) := by
 unfold VC5 at hm
 replace hm := hm (h1.sm kr)
 replace hm := hm (h2.sm kr)
 refine enter Try.func5 rfl (vals := [.agg #[.int .i64 o_.States, .int .i64 o_.Kinds, .int .i64 o_.Init, .slice a1 o_.Rows.length c1], .slice a2 l_.length c2, .int .i64 k_]) kr ?_
 intro ρ a hS hO hM
 replace h1 := h1.m0 hM
 replace h2 := h2.m0 hM
 clear hM
 refine rM T hS ⟨[(1, Sl a2 l_ c2), (2, I k_), (3, Pt 4 0)], [(4, (24, [I o_.States, I o_.Kinds, I o_.Init, Sl a1 o_.Rows c1]))]⟩ fun ρ a w134 χ135 hS hE hr => ?_
 replace hO := hO.mv hE rfl rfl
 replace h1 := h1.mv hE rfl
 replace h2 := h2.mv hE rfl
 clear hE hr
 refine wseq ?_
 refine regO ?_
 refine oP T hS 2 ⟨[(1, Sl a2 l_ c2), (2, I k_), (3, Pt 4 0), (11, V (.agg #[.int .i64 o_.States, .int .i64 o_.Kinds, .int .i64 o_.Init, .slice a1 o_.Rows.length c1])), (12, Sl a2 l_ c2)], [(4, (24, [I o_.States, I o_.Kinds, I o_.Init, Sl a1 o_.Rows c1]))]⟩ fun a hS => ?_
 refine op1 (call hS kr kr hb7 kr (fun _ _ => rfl) (k7 _ _ o_ l_ a1 c1 a2 c2 h1 h2) ?_)
 intro v101 a w102 χ103 hE hp hS
 replace hO := hO.mv hE rfl rfl
 replace h1 := h1.mv hE rfl
 replace h2 := h2.mv hE rfl
 obtain ⟨r104, hr⟩ : ∃ r, law41_few o_ l_ = r := ⟨_, rfl⟩
 replace hm := hm r104 hr
 rw [hr] at hp
 clear hr
 subst hp
 refine eP T hS ⟨[(1, Sl a2 l_ c2), (2, I k_), (3, Pt 4 0), (24, B (((!r104) || (decide (k_ < 0))) || (decide (k_ > (lN l_)))))], [(4, (24, [I o_.States, I o_.Kinds, I o_.Init, Sl a1 o_.Rows c1]))]⟩ (sp := [15, 19]) fun a hS => ?_
 refine wcond hS (b := (((!r104) || (decide (k_ < 0))) || (decide (k_ > (lN l_))))) kr (fun hb => ?_) (fun hb => ?_)
 ·replace hm := hm.1 hb
  refine regO ?_
  refine op1 (call hS kr kr hb8 kr (fun _ _ => rfl) (k8 _ _) ?_)
  intro v105 a w106 χ107 hE hp hS
  replace hO := hO.mv hE rfl rfl
  replace h1 := h1.mv hE rfl
  replace h2 := h2.mv hE rfl
  obtain ⟨r108, hr⟩ : ∃ r, law41_awake = r := ⟨_, rfl⟩
  replace hm := hm r108 hr
  rw [hr] at hp
  clear hr
  subst hp
  refine eP T hS ⟨[(6, B r108)], []⟩ fun a hS => ?_
  refine wret ?_
  exact fin T hS hO (fun c => c) rfl (r := [.bool r108]) kr (fun χ' hM hC => ⟨r108, hm, rfl⟩)
 replace hm := hm.2 hb
 refine wskip ?_
 refine regO ?_
 refine oP T hS 3 ⟨[(1, Sl a2 l_ c2), (2, I k_), (3, Pt 4 0), (29, V (.agg #[.int .i64 o_.States, .int .i64 o_.Kinds, .int .i64 o_.Init, .slice a1 o_.Rows.length c1, .slice a2 l_.length c2]))], [(4, (24, [I o_.States, I o_.Kinds, I o_.Init, Sl a1 o_.Rows c1]))]⟩ fun a hS => ?_
 obtain ⟨hq, hm⟩ := hm
 refine op1 (call hS kr kr hb12 kr (fun _ _ => rfl) (k12 _ _ (⟨o_, l_⟩ : Histtext_Case) a1 c1 a2 c2 hq h1 h2) ?_)
 intro v109 a w110 χ111 hE hp hS
 replace hO := hO.mv hE rfl rfl
 replace h1 := h1.mv hE rfl
 replace h2 := h2.mv hE rfl
 obtain ⟨r112, hr⟩ : ∃ r, shrink_Head (⟨o_, l_⟩ : Histtext_Case) = r := ⟨_, rfl⟩
 replace hm := hm r112 hr
 rw [hr] at hp
 clear hr
 subst hp
 refine eP T hS ⟨[(1, Sl a2 l_ c2), (2, I k_), (3, Pt 4 0), (7, I r112.1), (8, I r112.2)], [(4, (24, [I o_.States, I o_.Kinds, I o_.Init, Sl a1 o_.Rows c1]))]⟩ fun a hS => ?_
 refine drawnSX [4] mixed hS ?_
 intro w113 χ114 hS hE hD hH
 replace hO := hO.mv hE rfl rfl
 replace h1 := h1.mv hE rfl
 replace h2 := h2.mv hE rfl
 refine tk T [0, 1, 2] [4] hS hH #[true, true, true, false, false, false, false, false, false, false, false] 8 ⟨[(1, Sl a2 l_ c2), (2, I k_), (7, I r112.1), (8, I r112.2), (34, V (.agg #[.int .i64 o_.States, .int .i64 o_.Kinds, .int .i64 o_.Init, .slice a1 o_.Rows.length c1])), (35, Sl a2 l_ c2), (36, I k_)], [(4, (24, [I o_.States, I o_.Kinds, I o_.Init, Sl a1 o_.Rows c1]))]⟩ fun a hS => ?_
 obtain ⟨hq, hm⟩ := hm
 refine dslice0 (E := 54) (kh := .i64) T 3 hS kr kr kr (by rfl) kr hH kr kr h2 kr kr hq.1 hq.2 ?_
 intro a115 c116 a h117 hS
 refine tk T [4] [4] hS hH #[true, true, true, true, true, false, false, false, false, false, false] 6 ⟨[(1, Sl a2 l_ c2), (2, I k_), (7, I r112.1), (8, I r112.2), (38, V (.agg #[.int .i64 o_.States, .int .i64 o_.Kinds, .int .i64 o_.Init, .slice a1 o_.Rows.length c1, .slice a115 (l_.take k_.toNat).length c116]))], [(4, (24, [I o_.States, I o_.Kinds, I o_.Init, Sl a1 o_.Rows c1]))]⟩ fun a hS => ?_
 obtain ⟨hq, hm⟩ := hm
 refine only 5 kr (by rfl) (call hS kr kr hb10 kr (fun _ _ => rfl) (k10 _ _ (⟨o_, l_.take k_.toNat⟩ : Histtext_Case) a1 c1 a115 c116 hq h1 h117) ?_)
 intro v118 a w119 χ120 hE hp hS
 replace hO := hO.mv hE rfl rfl
 replace hD := hD.ev hE rfl
 replace h1 := h1.mv hE rfl
 replace h2 := h2.mv hE rfl
 replace h117 := h117.mv hE rfl
 obtain ⟨r121, hr⟩ : ∃ r, shrink_Lin (⟨o_, l_.take k_.toNat⟩ : Histtext_Case) = r := ⟨_, rfl⟩
 replace hm := hm r121 hr
 rw [hr] at hp
 clear hr
 subst hp
 replace hS := hS.sl ⟨[(1, Sl a2 l_ c2), (2, I k_), (7, I r112.1), (8, I r112.2), (38, V (.agg #[.int .i64 o_.States, .int .i64 o_.Kinds, .int .i64 o_.Init, .slice a1 o_.Rows.length c1, .slice a115 (l_.take k_.toNat).length c116])), (39, V (.tuple #[.bool r121.1, .int .i64 r121.2]))], [(4, (24, [I o_.States, I o_.Kinds, I o_.Init, Sl a1 o_.Rows c1]))]⟩
 refine andH (Hold.of hS (bks := [4]) kr hD) ?_
 intro hH
 refine tk T [6, 7, 8, 9, 10] [4] hS hH #[true, true, true, true, true, true, true, true, true, true, true] 0 ⟨[(1, Sl a2 l_ c2), (2, I k_), (7, I r112.1), (8, I r112.2), (9, B r121.1), (10, I r121.2)], [(4, (24, [I o_.States, I o_.Kinds, I o_.Init, Sl a1 o_.Rows c1]))]⟩ fun a hS => ?_
 refine drawnDone kr ?_
 clear hD hH
 replace hS := hS.sl ⟨[(1, Sl a2 l_ c2), (2, I k_), (7, I r112.1), (8, I r112.2), (9, B r121.1), (10, I r121.2)], []⟩
 refine wseq (rP T hS ⟨[(1, Sl a2 l_ c2), (2, I k_), (7, I r112.1), (8, I r112.2), (9, B r121.1), (10, I r121.2), (43, B (r112.2 == 41))], []⟩ fun a hS => ?_)
 refine wcond hS (b := (r112.2 == 41)) kr (fun hb => ?_) (fun hb => ?_)
 ·replace hm := hm.1 hb
  refine regO ?_
  refine oP T hS 6 ⟨[(49, B (r121.1 && (r121.2 == 0)))], []⟩ (sp := [45]) fun a hS => ?_
  rcases Bool.eq_false_or_eq_true (r121.1 && (r121.2 == 0)) with hb | hb
  ·replace hS := hS.lit (t := 49) kr hb
   replace hm := hm.1 hb
   refine op1 (call hS kr kr hb8 kr (fun _ _ => rfl) (k8 _ _) ?_)
   intro v122 a w123 χ124 hE hp hS
   replace hO := hO.mv hE rfl rfl
   obtain ⟨r125, hr⟩ : ∃ r, law41_awake = r := ⟨_, rfl⟩
   replace hm := hm r125 hr
   rw [hr] at hp
   clear hr
   subst hp
   refine eP T hS ⟨[(6, B r125)], []⟩ fun a hS => ?_
   refine wret ?_
   exact fin T hS hO (fun c => c) rfl (r := [.bool r125]) kr (fun χ' hM hC => ⟨r125, hm, rfl⟩)
  replace hS := hS.lit (t := 49) kr hb
  replace hm := hm.2 hb
  refine eP T hS ⟨[(6, B false)], []⟩ fun a hS => ?_
  refine wret ?_
  exact fin T hS hO (fun c => c) rfl (r := [.bool false]) kr (fun χ' hM hC => ⟨false, hm, rfl⟩)
 replace hm := hm.2 hb
 refine wskip ?_
 refine wseq (rP T hS ⟨[(1, Sl a2 l_ c2), (2, I k_), (7, I r112.1), (9, B r121.1), (10, I r121.2), (53, B (r112.2 != 0))], []⟩ fun a hS => ?_)
 refine wcond hS (b := (r112.2 != 0)) kr (fun hb => ?_) (fun hb => ?_)
 ·replace hm := hm.1 hb
  refine regO ?_
  refine oP T hS 3 ⟨[(56, B (r112.1 == 0))], []⟩ fun a hS => ?_
  rcases Bool.eq_false_or_eq_true (r112.1 == 0) with hb | hb
  ·replace hS := hS.lit (t := 56) kr hb
   replace hm := hm.1 hb
   refine op1 (call hS kr kr hb8 kr (fun _ _ => rfl) (k8 _ _) ?_)
   intro v126 a w127 χ128 hE hp hS
   replace hO := hO.mv hE rfl rfl
   obtain ⟨r129, hr⟩ : ∃ r, law41_awake = r := ⟨_, rfl⟩
   replace hm := hm r129 hr
   rw [hr] at hp
   clear hr
   subst hp
   refine eP T hS ⟨[(6, B r129)], []⟩ fun a hS => ?_
   refine wret ?_
   exact fin T hS hO (fun c => c) rfl (r := [.bool r129]) kr (fun χ' hM hC => ⟨r129, hm, rfl⟩)
  replace hS := hS.lit (t := 56) kr hb
  replace hm := hm.2 hb
  refine eP T hS ⟨[(6, B false)], []⟩ fun a hS => ?_
  refine wret ?_
  exact fin T hS hO (fun c => c) rfl (r := [.bool false]) kr (fun χ' hM hC => ⟨false, hm, rfl⟩)
 replace hm := hm.2 hb
 refine wskip ?_
 refine regO ?_
 refine oP T hS 20 ⟨[(78, B ((((decide (r112.1 ≥ 1)) && (decide (r112.1 ≤ (lN l_)))) && (r121.2 == 0)) && (r121.1 == (decide (k_ < r112.1)))))], []⟩ (sp := [61, 67, 71]) fun a hS => ?_
 rcases Bool.eq_false_or_eq_true ((((decide (r112.1 ≥ 1)) && (decide (r112.1 ≤ (lN l_)))) && (r121.2 == 0)) && (r121.1 == (decide (k_ < r112.1)))) with hb | hb
 ·replace hS := hS.lit (t := 78) kr hb
  replace hm := hm.1 hb
  refine op1 (call hS kr kr hb8 kr (fun _ _ => rfl) (k8 _ _) ?_)
  intro v130 a w131 χ132 hE hp hS
  replace hO := hO.mv hE rfl rfl
  obtain ⟨r133, hr⟩ : ∃ r, law41_awake = r := ⟨_, rfl⟩
  replace hm := hm r133 hr
  rw [hr] at hp
  clear hr
  subst hp
  refine eP T hS ⟨[(6, B r133)], []⟩ fun a hS => ?_
  refine wret ?_
  exact fin T hS hO (fun c => c) rfl (r := [.bool r133]) kr (fun χ' hM hC => ⟨r133, hm, rfl⟩)
 replace hS := hS.lit (t := 78) kr hb
 replace hm := hm.2 hb
 refine eP T hS ⟨[(6, B false)], []⟩ fun a hS => ?_
 refine wret ?_
 exact fin T hS hO (fun c => c) rfl (r := [.bool false]) kr (fun χ' hM hC => ⟨false, hm, rfl⟩)
end Go.Proofs.Ytojdelnnjhbgbaa
