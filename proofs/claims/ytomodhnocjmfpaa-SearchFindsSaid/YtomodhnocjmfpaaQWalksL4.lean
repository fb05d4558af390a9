/- Walks: each function returns what its condition asks. Condition: the contracts of its callees, handed in. -/
import Derived.Test.YtomodhnocjmfpaaQWalksS
set_option linter.all false
namespace Go.Proofs.Ytomodhnocjmfpaa
open Go Go.Sv
set_option maxHeartbeats 1000000
/-- replevin/replevinlaw30.SearchFinds -/
theorem W4 (k15 : S15) (k6 : S6) (k7 : S7) (k8 : S8) (k9 : S9) (w0 : World) (χ0 : Nat → Nat) (o_ : Api_Object) (l_ : List Api_Oper) (picks : List Api_Pick) (a1 : Option Addr) (c1 : Nat) (a2 : Option Addr) (c2 : Nat) (a3 : Option Addr) (c3 : Nat) (Q : Bool → Prop) (hm : VC4 o_ l_ picks Q) (h1 : RS tApi_Row w0 χ0 a1 o_.Rows c1) (h2 : RS tApi_Oper w0 χ0 a2 l_ c2) (h3 : RS tApi_Pick w0 χ0 a3 picks c3) :
  Ret Try.prog 4 #[.agg #[.int .i64 o_.States, .int .i64 o_.Kinds, .int .i64 o_.Init, .slice a1 o_.Rows.length c1], .slice a2 l_.length c2, .slice a3 picks.length c3] xnone w0 χ0 (fun w χ' v => ∃ r, Q r ∧ v = .bool r) := by
 unfold VC4 at hm
 replace hm := hm (h1.sm kr)
 replace hm := hm (h2.sm kr)
 replace hm := hm (h3.sm kr)
 refine enter Try.func4 rfl (vals := [.agg #[.int .i64 o_.States, .int .i64 o_.Kinds, .int .i64 o_.Init, .slice a1 o_.Rows.length c1], .slice a2 l_.length c2, .slice a3 picks.length c3]) kr ?_
 intro ρ a hS hO hM
 replace h1 := h1.m0 hM
 replace h2 := h2.m0 hM
 replace h3 := h3.m0 hM
 clear hM
 refine rM T hS ⟨[(1, Sl a2 l_ c2), (2, Sl a3 picks c3), (3, Pt 4 0)], [(4, (24, [I o_.States, I o_.Kinds, I o_.Init, Sl a1 o_.Rows c1]))]⟩ fun ρ a w138 χ139 hS hE hr => ?_
 replace hO := hO.mv hE rfl rfl
 replace h1 := h1.mv hE rfl
 replace h2 := h2.mv hE rfl
 replace h3 := h3.mv hE rfl
 clear hE hr
 refine wseq ?_
 refine regO ?_
 refine oP T hS 1 ⟨[(1, Sl a2 l_ c2), (2, Sl a3 picks c3), (3, Pt 4 0), (11, V (.agg #[.int .i64 o_.States, .int .i64 o_.Kinds, .int .i64 o_.Init, .slice a1 o_.Rows.length c1]))], [(4, (24, [I o_.States, I o_.Kinds, I o_.Init, Sl a1 o_.Rows c1]))]⟩ fun a hS => ?_
 refine op1 (call hS kr kr hb6 kr (fun _ _ => rfl) (k6 _ _ o_ a1 c1 h1) ?_)
 intro v101 a w102 χ103 hE hp hS
 replace hO := hO.mv hE rfl rfl
 replace h1 := h1.mv hE rfl
 replace h2 := h2.mv hE rfl
 replace h3 := h3.mv hE rfl
 clear hE
 obtain ⟨r104, hr⟩ : ∃ r, law23_Few o_ = r := ⟨_, rfl⟩
 replace hm := hm r104 hr
 rw [hr] at hp
 clear hr
 subst hp
 refine eP T hS ⟨[(1, Sl a2 l_ c2), (2, Sl a3 picks c3), (3, Pt 4 0), (23, B (((!r104) || (decide (((l_.length : Nat) : Int) > 12))) || (decide (((picks.length : Nat) : Int) > 40))))], [(4, (24, [I o_.States, I o_.Kinds, I o_.Init, Sl a1 o_.Rows c1]))]⟩ (sp := [14, 19]) fun a hS => ?_
 refine wcond hS (b := (((!r104) || (decide (((l_.length : Nat) : Int) > 12))) || (decide (((picks.length : Nat) : Int) > 40)))) kr (fun hb => ?_) (fun hb => ?_)
 ·replace hm := hm.1 hb
  refine regO ?_
  refine op1 (call hS kr kr hb7 kr (fun _ _ => rfl) (k7 _ _) ?_)
  intro v105 a w106 χ107 hE hp hS
  replace hO := hO.mv hE rfl rfl
  replace h1 := h1.mv hE rfl
  replace h2 := h2.mv hE rfl
  replace h3 := h3.mv hE rfl
  clear hE
  obtain ⟨r108, hr⟩ : ∃ r, law30_awake = r := ⟨_, rfl⟩
  replace hm := hm r108 hr
  rw [hr] at hp
  clear hr
  subst hp
  refine eP T hS ⟨[(6, B r108)], []⟩ fun a hS => ?_
  refine wret ?_
  exact fin T hS hO (fun c => c) rfl (r := [.bool r108]) kr (fun χ' hM hC => ⟨r108, hm, rfl⟩)
 ·replace hm := hm.2 hb
  refine wskip ?_
  refine regO ?_
  refine oP T hS 2 ⟨[(1, Sl a2 l_ c2), (2, Sl a3 picks c3), (3, Pt 4 0), (26, V (.agg #[.int .i64 o_.States, .int .i64 o_.Kinds, .int .i64 o_.Init, .slice a1 o_.Rows.length c1])), (27, Sl a2 l_ c2)], [(4, (24, [I o_.States, I o_.Kinds, I o_.Init, Sl a1 o_.Rows c1]))]⟩ fun a hS => ?_
  obtain ⟨hq, hm⟩ := hm
  refine op1 (call hS kr kr hb8 kr (fun _ _ => rfl) (k8 _ _ o_ l_ a1 c1 a2 c2 hq h1 h2) ?_)
  intro v109 a w110 χ111 hE hp hS
  clear hq
  replace hO := hO.mv hE rfl rfl
  replace h1 := h1.mv hE rfl
  replace h2 := h2.mv hE rfl
  replace h3 := h3.mv hE rfl
  clear hE
  obtain ⟨a113, c114, hp, h115⟩ := hp
  obtain ⟨r112, hr⟩ : ∃ r, search_Search o_ l_ = r := ⟨_, rfl⟩
  replace hm := hm r112 hr
  rw [hr] at hp h115
  clear hr
  subst hp
  replace hm := hm (h115.sm kr)
  refine eP T hS ⟨[(1, Sl a2 l_ c2), (2, Sl a3 picks c3), (3, Pt 4 0), (7, Sl a113 r112.1 c114), (8, I r112.2)], [(4, (24, [I o_.States, I o_.Kinds, I o_.Init, Sl a1 o_.Rows c1]))]⟩ fun a hS => ?_
  refine wseq ?_
  refine wcut (fun a w => ∃ (ρ : Nat → Nat) (χ : Nat → Nat) (x_118 : Bool), VC4_J1 o_ l_ picks Q r112 x_118 ∧ St Try.f4.ntmps ⟨[(1, Sl a2 l_ c2), (2, Sl a3 picks c3), (3, Pt 4 0), (8, I r112.2), (39, B x_118)], [(4, (24, [I o_.States, I o_.Kinds, I o_.Init, Sl a1 o_.Rows c1]))]⟩ ρ a w χ ∧ Old w0 χ0 w χ ∧ RS tApi_Oper w χ a2 l_ c2 ∧ RS tApi_Pick w χ a3 picks c3 ∧ RS tApi_Row w χ a1 o_.Rows c1) ?_ ?_
  ·refine region ?_
   refine oP T hS 3 ⟨[(1, Sl a2 l_ c2), (2, Sl a3 picks c3), (3, Pt 4 0), (7, Sl a113 r112.1 c114), (8, I r112.2), (33, B (r112.2 == 0))], [(4, (24, [I o_.States, I o_.Kinds, I o_.Init, Sl a1 o_.Rows c1]))]⟩ fun a hS => ?_
   rcases Bool.eq_false_or_eq_true (r112.2 == 0) with hb | hb
   ·replace hS := hS.lit (t := 33) kr hb
    replace hm := hm.1 hb
    refine oP T hS 3 ⟨[(1, Sl a2 l_ c2), (2, Sl a3 picks c3), (3, Pt 4 0), (8, I r112.2), (33, B true), (34, V (.agg #[.int .i64 o_.States, .int .i64 o_.Kinds, .int .i64 o_.Init, .slice a1 o_.Rows.length c1])), (35, Sl a2 l_ c2), (36, Sl a113 r112.1 c114)], [(4, (24, [I o_.States, I o_.Kinds, I o_.Init, Sl a1 o_.Rows c1]))]⟩ fun a hS => ?_
    obtain ⟨hq, hm⟩ := hm
    refine op1 (call hS kr kr hb15 kr (fun _ _ => rfl) (k15 _ _ o_ l_ r112.1 a1 c1 a2 c2 a113 c114 hq h1 h2 h115) ?_)
    intro v132 a w133 χ134 hE hp hS
    clear hq
    replace hO := hO.mv hE rfl rfl
    replace h1 := h1.mv hE rfl
    replace h2 := h2.mv hE rfl
    replace h3 := h3.mv hE rfl
    replace h115 := h115.mv hE rfl
    clear hE
    obtain ⟨r135, hr⟩ : ∃ r, witness_Is o_ l_ r112.1 = r := ⟨_, rfl⟩
    replace hm := hm r135 hr
    rw [hr] at hp
    clear hr
    subst hp
    refine eP T hS ⟨[(1, Sl a2 l_ c2), (2, Sl a3 picks c3), (3, Pt 4 0), (8, I r112.2), (39, B (!r135))], [(4, (24, [I o_.States, I o_.Kinds, I o_.Init, Sl a1 o_.Rows c1]))]⟩ fun a hS => ?_
    exact ⟨ρ, _, (!r135), hm, hS.sl _, hO, h2, h3, h1⟩
   ·replace hS := hS.lit (t := 33) kr hb
    replace hm := hm.2 hb
    refine eP T hS ⟨[(1, Sl a2 l_ c2), (2, Sl a3 picks c3), (3, Pt 4 0), (8, I r112.2), (39, B false)], [(4, (24, [I o_.States, I o_.Kinds, I o_.Init, Sl a1 o_.Rows c1]))]⟩ fun a hS => ?_
    exact ⟨ρ, _, false, hm, hS.sl _, hO, h2, h3, h1⟩
  ·rintro a w137 ⟨ρ, χ136, x_118, hm, hS, hO, h116, h117, h119⟩
   unfold VC4_J1 at hm
   refine wcond hS (b := x_118) kr (fun hb => ?_) (fun hb => ?_)
   ·replace hm := hm.1 hb
    refine rP T hS ⟨[(6, B false)], []⟩ fun a hS => ?_
    refine wret ?_
    exact fin T hS hO (fun c => c) rfl (r := [.bool false]) kr (fun χ' hM hC => ⟨false, hm, rfl⟩)
   ·replace hm := hm.2 hb
    refine wskip ?_
    refine wseq ?_
    refine regO ?_
    refine oP T hS 3 ⟨[(1, Sl a2 l_ c2), (3, Pt 4 0), (8, I r112.2), (40, V (.agg #[.int .i64 o_.States, .int .i64 o_.Kinds, .int .i64 o_.Init, .slice a1 o_.Rows.length c1])), (41, Sl a2 l_ c2), (42, Sl a3 picks c3)], [(4, (24, [I o_.States, I o_.Kinds, I o_.Init, Sl a1 o_.Rows c1]))]⟩ fun a hS => ?_
    obtain ⟨hq, hm⟩ := hm
    refine op1 (call hS kr kr hb15 kr (fun _ _ => rfl) (k15 _ _ o_ l_ picks a1 c1 a2 c2 a3 c3 hq h119 h116 h117) ?_)
    intro v120 a w121 χ122 hE hp hS
    clear hq
    replace hO := hO.mv hE rfl rfl
    replace h116 := h116.mv hE rfl
    replace h117 := h117.mv hE rfl
    replace h119 := h119.mv hE rfl
    clear hE
    obtain ⟨r123, hr⟩ : ∃ r, witness_Is o_ l_ picks = r := ⟨_, rfl⟩
    replace hm := hm r123 hr
    rw [hr] at hp
    clear hr
    subst hp
    refine eP T hS ⟨[(1, Sl a2 l_ c2), (3, Pt 4 0), (8, I r112.2), (47, B (r123 && (r112.2 != 0)))], [(4, (24, [I o_.States, I o_.Kinds, I o_.Init, Sl a1 o_.Rows c1]))]⟩ (sp := [44]) fun a hS => ?_
    refine wcond hS (b := (r123 && (r112.2 != 0))) kr (fun hb => ?_) (fun hb => ?_)
    ·replace hm := hm.1 hb
     refine rP T hS ⟨[(6, B false)], []⟩ fun a hS => ?_
     refine wret ?_
     exact fin T hS hO (fun c => c) rfl (r := [.bool false]) kr (fun χ' hM hC => ⟨false, hm, rfl⟩)
    ·replace hm := hm.2 hb
     refine wskip ?_
     refine regO ?_
     refine oP T hS 2 ⟨[(8, I r112.2), (49, V (.agg #[.int .i64 o_.States, .int .i64 o_.Kinds, .int .i64 o_.Init, .slice a1 o_.Rows.length c1])), (50, Sl a2 l_ c2)], []⟩ fun a hS => ?_
     obtain ⟨hq, hm⟩ := hm
     refine op1 (call hS kr kr hb9 kr (fun _ _ => rfl) (k9 _ _ o_ l_ a1 c1 a2 c2 hq h119 h116) ?_)
     intro v124 a w125 χ126 hE hp hS
     clear hq
     replace hO := hO.mv hE rfl rfl
     replace h116 := h116.mv hE rfl
     replace h119 := h119.mv hE rfl
     clear hE
     obtain ⟨r127, hr⟩ : ∃ r, search_Lin o_ l_ = r := ⟨_, rfl⟩
     replace hm := hm r127 hr
     rw [hr] at hp
     clear hr
     subst hp
     refine eP T hS ⟨[(8, I r112.2), (9, B r127.1), (10, I r127.2)], []⟩ fun a hS => ?_
     refine regO ?_
     refine oP T hS 16 ⟨[(69, B ((r127.1 == (r112.2 == 0)) && ((r127.2 == 0) == ((r112.2 == 0) || (r112.2 == 41)))))], []⟩ (sp := [58, 63]) fun a hS => ?_
     rcases Bool.eq_false_or_eq_true ((r127.1 == (r112.2 == 0)) && ((r127.2 == 0) == ((r112.2 == 0) || (r112.2 == 41)))) with hb | hb
     ·replace hS := hS.lit (t := 69) kr hb
      replace hm := hm.1 hb
      refine op1 (call hS kr kr hb7 kr (fun _ _ => rfl) (k7 _ _) ?_)
      intro v128 a w129 χ130 hE hp hS
      replace hO := hO.mv hE rfl rfl
      clear hE
      obtain ⟨r131, hr⟩ : ∃ r, law30_awake = r := ⟨_, rfl⟩
      replace hm := hm r131 hr
      rw [hr] at hp
      clear hr
      subst hp
      refine eP T hS ⟨[(6, B r131)], []⟩ fun a hS => ?_
      refine wret ?_
      exact fin T hS hO (fun c => c) rfl (r := [.bool r131]) kr (fun χ' hM hC => ⟨r131, hm, rfl⟩)
     ·replace hS := hS.lit (t := 69) kr hb
      replace hm := hm.2 hb
      refine eP T hS ⟨[(6, B false)], []⟩ fun a hS => ?_
      refine wret ?_
      exact fin T hS hO (fun c => c) rfl (r := [.bool false]) kr (fun χ' hM hC => ⟨false, hm, rfl⟩)
end Go.Proofs.Ytomodhnocjmfpaa
