/- Walks: each function returns what its condition asks. Condition: the contracts of its callees, handed in. -/
import Derived.Test.YtcjldfbgccmpkaaDoorHWalksS
set_option linter.all false
namespace Go.Proofs.YtcjldfbgccmpkaaDoor
open Go Go.Sv
set_option maxHeartbeats 1000000
/-- replevin/replevinlaw26.HisttextBack -/
theorem W5 (k10 : S10) (k11 : S11) (k12 : S12) (k14 : S14) (k7 : S7) (k8 : S8) (w0 : World) (χ0 : Nat → Nat) (o_ : Api_Object) (l_ : List Api_Event) (s_ : List UInt8) (a1 : Option Addr) (c1 : Nat) (a2 : Option Addr) (c2 : Nat) (Q : Bool → Prop) (hm : VC5 o_ l_ s_ Q) (h1 : RS tApi_Row w0 χ0 a1 o_.Rows c1) (h2 : RS tApi_Event w0 χ0 a2 l_ c2) (hAmb : Amb w0 χ0) :
  Ret Tryd.prog 5 #[.agg #[.int .i64 o_.States, .int .i64 o_.Kinds, .int .i64 o_.Init, .slice a1 o_.Rows.length c1], .slice a2 l_.length c2, .string (bs s_)] xnone w0 χ0 (fun w χ' v => ∃ r, Q r ∧ v = .bool r) := by
 unfold VC5 at hm
 replace hm := hm (h1.sm kr)
 replace hm := hm (h2.sm kr)
 refine enter Tryd.func5 rfl (vals := [.agg #[.int .i64 o_.States, .int .i64 o_.Kinds, .int .i64 o_.Init, .slice a1 o_.Rows.length c1], .slice a2 l_.length c2, .string (bs s_)]) kr ?_
 intro ρ a hS hO hM
 replace h1 := h1.m0 hM
 replace h2 := h2.m0 hM
 replace hAmb := hAmb.m0 hM
 clear hM
 refine regM T hS (sp := []) (ks := [1, 2, 3]) (bs := [4]) (sy' := ⟨[(1, V (.slice a2 l_.length c2)), (2, V (.string (bs s_))), (3, Pt 4 0)], [(4, (25, [I o_.States, I o_.Kinds, I o_.Init, V (.slice a1 o_.Rows.length c1)]))]⟩) kr ?_
 intro ρ a w179 χ180 hS hE hr
 replace hO := hO.mv hE rfl rfl
 replace h1 := h1.mv hE rfl
 replace h2 := h2.mv hE rfl
 replace hAmb := hAmb.mv hE rfl
 clear hE hr
 refine wseq ?_
 refine regO ?_
 refine opsP T hS 1 (sp := []) (ks := [1, 2, 3, 20]) (bs := [4]) (sy' := ⟨[(1, V (.slice a2 l_.length c2)), (2, V (.string (bs s_))), (3, Pt 4 0), (20, V (.agg #[.int .i64 o_.States, .int .i64 o_.Kinds, .int .i64 o_.Init, .slice a1 o_.Rows.length c1]))], [(4, (25, [I o_.States, I o_.Kinds, I o_.Init, V (.slice a1 o_.Rows.length c1)]))]⟩) kr ?_
 intro a hS
 refine op1 (call hS kr kr hb11 kr (fun _ _ => rfl) (k11 _ _ o_ a1 c1 h1) ?_)
 intro v101 a w102 χ103 hE hp hS
 replace hO := hO.mv hE rfl rfl
 replace h1 := h1.mv hE rfl
 replace h2 := h2.mv hE rfl
 replace hAmb := hAmb.mv hE rfl
 clear hE
 obtain ⟨r104, hr⟩ : ∃ r, law23_Few o_ = r := ⟨_, rfl⟩
 replace hm := hm r104 hr
 rw [hr] at hp
 clear hr
 subst hp
 refine endP T hS (sp := [23, 28]) (ks := [1, 2, 3, 32]) (bs := [4]) (sy' := ⟨[(1, V (.slice a2 l_.length c2)), (2, V (.string (bs s_))), (3, Pt 4 0), (32, B (((!r104) || (decide (((l_.length : Nat) : Int) > 200))) || (decide (((s_.length : Nat) : Int) > 3000))))], [(4, (25, [I o_.States, I o_.Kinds, I o_.Init, V (.slice a1 o_.Rows.length c1)]))]⟩) kr ?_
 intro a hS
 refine wcond hS (b := (((!r104) || (decide (((l_.length : Nat) : Int) > 200))) || (decide (((s_.length : Nat) : Int) > 3000)))) kr (fun hb => ?_) (fun hb => ?_)
 ·replace hm := hm.1 hb
  refine regO ?_
  refine op1 (call hS kr kr hb7 kr (fun _ _ => rfl) (k7 _ _ hAmb) ?_)
  intro v105 a w106 χ107 hE hp hS
  replace hO := hO.mv hE rfl rfl
  replace h1 := h1.mv hE rfl
  replace h2 := h2.mv hE rfl
  replace hAmb := hAmb.mv hE rfl
  clear hE
  obtain ⟨r108, hr⟩ : ∃ r, law26_awake = r := ⟨_, rfl⟩
  replace hm := hm r108 hr
  rw [hr] at hp
  clear hr
  subst hp
  refine endP T hS (sp := []) (ks := [6]) (bs := []) (sy' := ⟨[(6, B r108)], []⟩) kr ?_
  intro a hS
  refine wret ?_
  exact fin T hS hO (fun c => c) rfl (r := [.bool r108]) kr (fun χ' hM hC => ⟨r108, hm, rfl⟩)
 ·replace hm := hm.2 hb
  refine wskip ?_
  refine regO ?_
  refine opsP T hS 3 (sp := []) (ks := [1, 2, 3, 37]) (bs := [4]) (sy' := ⟨[(1, V (.slice a2 l_.length c2)), (2, V (.string (bs s_))), (3, Pt 4 0), (37, V (.agg #[.int .i64 o_.States, .int .i64 o_.Kinds, .int .i64 o_.Init, .slice a1 o_.Rows.length c1, .slice a2 l_.length c2]))], [(4, (25, [I o_.States, I o_.Kinds, I o_.Init, V (.slice a1 o_.Rows.length c1)]))]⟩) kr ?_
  intro a hS
  obtain ⟨hq, hm⟩ := hm
  refine op1 (call hS kr kr hb12 kr (fun _ _ => rfl) (k12 _ _ (⟨o_, l_⟩ : Histtext_Case) a1 c1 a2 c2 hq h1 h2 hAmb) ?_)
  intro v109 a w110 χ111 hE hp hS
  clear hq
  replace hO := hO.mv hE rfl rfl
  replace h1 := h1.mv hE rfl
  replace h2 := h2.mv hE rfl
  replace hAmb := hAmb.mv hE rfl
  clear hE
  obtain ⟨r112, hr⟩ : ∃ r, histtext_Print (⟨o_, l_⟩ : Histtext_Case) = r := ⟨_, rfl⟩
  replace hm := hm r112 hr
  rw [hr] at hp
  clear hr
  subst hp
  refine endP T hS (sp := []) (ks := [1, 2, 3, 7, 8]) (bs := [4]) (sy' := ⟨[(1, V (.slice a2 l_.length c2)), (2, V (.string (bs s_))), (3, Pt 4 0), (7, V (.string (bs r112.1))), (8, I r112.2)], [(4, (25, [I o_.States, I o_.Kinds, I o_.Init, V (.slice a1 o_.Rows.length c1)]))]⟩) kr ?_
  intro a hS
  refine wcut (fun a w => ∃ (ρ : Nat → Nat) (χ : Nat → Nat), VC5_J1 s_ Q ∧ St Tryd.f5.ntmps ⟨[(2, V (.string (bs s_)))], []⟩ ρ a w χ ∧ Old w0 χ0 w χ ∧ Amb w χ) ?_ ?_
  ·refine regP T hS (sp := []) (ks := [1, 2, 3, 7, 42]) (bs := [4]) (sy' := ⟨[(1, V (.slice a2 l_.length c2)), (2, V (.string (bs s_))), (3, Pt 4 0), (7, V (.string (bs r112.1))), (42, B (r112.2 == 0))], [(4, (25, [I o_.States, I o_.Kinds, I o_.Init, V (.slice a1 o_.Rows.length c1)]))]⟩) kr ?_
   intro a hS
   refine wcond hS (b := (r112.2 == 0)) kr (fun hb => ?_) (fun hb => ?_)
   ·replace hm := hm.1 hb
    refine regO ?_
    refine opsP T hS 1 (sp := []) (ks := [1, 2, 3, 7, 44]) (bs := [4]) (sy' := ⟨[(1, V (.slice a2 l_.length c2)), (2, V (.string (bs s_))), (3, Pt 4 0), (7, V (.string (bs r112.1))), (44, V (.string (bs r112.1)))], [(4, (25, [I o_.States, I o_.Kinds, I o_.Init, V (.slice a1 o_.Rows.length c1)]))]⟩) kr ?_
    intro a hS
    refine op1 (call hS kr kr hb8 kr (fun _ _ => rfl) (k8 _ _ r112.1) ?_)
    intro v161 a w162 χ163 hE hp hS
    replace hO := hO.mv hE rfl rfl
    replace h1 := h1.mv hE rfl
    replace h2 := h2.mv hE rfl
    replace hAmb := hAmb.mv hE rfl
    clear hE
    obtain ⟨a165, c166, a168, c169, hp, h167, h170⟩ := hp
    obtain ⟨r164, hr⟩ : ∃ r, histtext_Parse r112.1 = r := ⟨_, rfl⟩
    replace hm := hm r164 hr
    rw [hr] at hp h167 h170
    clear hr
    subst hp
    replace hm := hm (h167.sm kr)
    replace hm := hm (h170.sm kr)
    refine endM T hS (sp := []) (ks := [1, 2, 3, 7, 9, 10, 11]) (bs := [4, 10]) (sy' := ⟨[(1, V (.slice a2 l_.length c2)), (2, V (.string (bs s_))), (3, Pt 4 0), (7, V (.string (bs r112.1))), (9, Pt 10 0), (10, I r164.2.1), (11, I r164.2.2)], [(4, (25, [I o_.States, I o_.Kinds, I o_.Init, V (.slice a1 o_.Rows.length c1)])), (10, (28, [I r164.1.Object.States, I r164.1.Object.Kinds, I r164.1.Object.Init, V (.slice a165 r164.1.Object.Rows.length c166), V (.slice a168 r164.1.Events.length c169)]))]⟩) kr ?_
    intro ρ a w175 χ176 hS hE hr
    replace hO := hO.mv hE rfl rfl
    replace h1 := h1.mv hE rfl
    replace h2 := h2.mv hE rfl
    replace hAmb := hAmb.mv hE rfl
    replace h167 := h167.mv hE rfl
    replace h170 := h170.mv hE rfl
    clear hE hr
    refine regO ?_
    refine opsP T hS 3 (sp := []) (ks := [2, 7, 10, 11, 49, 50, 51]) (bs := []) (sy' := ⟨[(2, V (.string (bs s_))), (7, V (.string (bs r112.1))), (10, I r164.2.1), (11, I r164.2.2), (49, V (.agg #[.int .i64 r164.1.Object.States, .int .i64 r164.1.Object.Kinds, .int .i64 r164.1.Object.Init, .slice a165 r164.1.Object.Rows.length c166, .slice a168 r164.1.Events.length c169])), (50, V (.agg #[.int .i64 o_.States, .int .i64 o_.Kinds, .int .i64 o_.Init, .slice a1 o_.Rows.length c1])), (51, V (.slice a2 l_.length c2))], []⟩) kr ?_
    intro a hS
    refine op1 (call hS kr kr hb10 kr (fun _ _ => rfl) (k10 _ _ r164.1 o_ l_ a165 c166 a168 c169 a1 c1 a2 c2 h167 h170 h1 h2) ?_)
    intro v171 a w172 χ173 hE hp hS
    replace hO := hO.mv hE rfl rfl
    replace h1 := h1.mv hE rfl
    replace h2 := h2.mv hE rfl
    replace hAmb := hAmb.mv hE rfl
    replace h167 := h167.mv hE rfl
    replace h170 := h170.mv hE rfl
    clear hE
    obtain ⟨r174, hr⟩ : ∃ r, law26_same r164.1 o_ l_ = r := ⟨_, rfl⟩
    replace hm := hm r174 hr
    rw [hr] at hp
    clear hr
    subst hp
    refine endP T hS (sp := [54, 60]) (ks := [2, 63]) (bs := []) (sy' := ⟨[(2, V (.string (bs s_))), (63, B (((!r174) || (r164.2.1 != ((r112.1.length : Nat) : Int))) || (r164.2.2 != 0)))], []⟩) kr ?_
    intro a hS
    refine wcond hS (b := (((!r174) || (r164.2.1 != ((r112.1.length : Nat) : Int))) || (r164.2.2 != 0))) kr (fun hb => ?_) (fun hb => ?_)
    ·replace hm := hm.1 hb
     refine regP T hS (sp := []) (ks := [6]) (bs := []) (sy' := ⟨[(6, B false)], []⟩) kr ?_
     intro a hS
     refine wret ?_
     exact fin T hS hO (fun c => c) rfl (r := [.bool false]) kr (fun χ' hM hC => ⟨false, hm, rfl⟩)
    ·replace hm := hm.2 hb
     refine wskip ?_
     exact ⟨ρ, _, hm, hS.sel [2] [] kr, hO, hAmb⟩
   ·replace hm := hm.2 hb
    refine wskip ?_
    exact ⟨ρ, _, hm, hS.sel [2] [] kr, hO, hAmb⟩
  ·rintro a w178 ⟨ρ, χ177, hm, hS, hO, hAmb⟩
   unfold VC5_J1 at hm
   refine regO ?_
   refine opsP T hS 1 (sp := []) (ks := [65]) (bs := []) (sy' := ⟨[(65, V (.string (bs s_)))], []⟩) kr ?_
   intro a hS
   refine op1 (call hS kr kr hb8 kr (fun _ _ => rfl) (k8 _ _ s_) ?_)
   intro v113 a w114 χ115 hE hp hS
   replace hO := hO.mv hE rfl rfl
   replace hAmb := hAmb.mv hE rfl
   clear hE
   obtain ⟨a117, c118, a120, c121, hp, h119, h122⟩ := hp
   obtain ⟨r116, hr⟩ : ∃ r, histtext_Parse s_ = r := ⟨_, rfl⟩
   replace hm := hm r116 hr
   rw [hr] at hp h119 h122
   clear hr
   subst hp
   replace hm := hm (h119.sm kr)
   replace hm := hm (h122.sm kr)
   refine endM T hS (sp := []) (ks := [12, 14]) (bs := [13]) (sy' := ⟨[(12, Pt 13 0), (14, I r116.2.2)], [(13, (28, [I r116.1.Object.States, I r116.1.Object.Kinds, I r116.1.Object.Init, V (.slice a117 r116.1.Object.Rows.length c118), V (.slice a120 r116.1.Events.length c121)]))]⟩) kr ?_
   intro ρ a w159 χ160 hS hE hr
   replace hO := hO.mv hE rfl rfl
   replace hAmb := hAmb.mv hE rfl
   replace h119 := h119.mv hE rfl
   replace h122 := h122.mv hE rfl
   clear hE hr
   refine wseq ?_
   refine regP T hS (sp := []) (ks := [12, 71]) (bs := [13]) (sy' := ⟨[(12, Pt 13 0), (71, B (r116.2.2 != 0))], [(13, (28, [I r116.1.Object.States, I r116.1.Object.Kinds, I r116.1.Object.Init, V (.slice a117 r116.1.Object.Rows.length c118), V (.slice a120 r116.1.Events.length c121)]))]⟩) kr ?_
   intro a hS
   refine wcond hS (b := (r116.2.2 != 0)) kr (fun hb => ?_) (fun hb => ?_)
   ·replace hm := hm.1 hb
    refine regO ?_
    refine opsP T hS 2 (sp := []) (ks := [72, 73]) (bs := []) (sy' := ⟨[(72, V (.agg #[.int .i64 r116.1.Object.States, .int .i64 r116.1.Object.Kinds, .int .i64 r116.1.Object.Init, .slice a117 r116.1.Object.Rows.length c118, .slice a120 r116.1.Events.length c121])), (73, V (.agg #[.int .i64 0, .int .i64 0, .int .i64 0, .slice none 0 0]))], []⟩) kr ?_
    intro a hS
    refine op1 (call hS kr kr hb10 kr (fun _ _ => rfl) (k10 _ _ r116.1 (⟨0, 0, 0, []⟩ : Api_Object) [] a117 c118 a120 c121 none 0 none 0 h119 h122 (RS.empty _ _ _) (RS.empty _ _ _)) ?_)
    intro v123 a w124 χ125 hE hp hS
    replace hO := hO.mv hE rfl rfl
    replace hAmb := hAmb.mv hE rfl
    replace h119 := h119.mv hE rfl
    replace h122 := h122.mv hE rfl
    clear hE
    obtain ⟨r126, hr⟩ : ∃ r, law26_same r116.1 (⟨0, 0, 0, []⟩ : Api_Object) [] = r := ⟨_, rfl⟩
    replace hm := hm r126 hr
    rw [hr] at hp
    clear hr
    subst hp
    refine opsP T hS 1 (sp := []) (ks := [75]) (bs := []) (sy' := ⟨[(75, B r126)], []⟩) kr ?_
    intro a hS
    rcases Bool.eq_false_or_eq_true r126 with hb | hb
    ·replace hS := hS.lit (t := 75) kr hb
     replace hm := hm.1 hb
     refine op1 (call hS kr kr hb7 kr (fun _ _ => rfl) (k7 _ _ hAmb) ?_)
     intro v127 a w128 χ129 hE hp hS
     replace hO := hO.mv hE rfl rfl
     replace hAmb := hAmb.mv hE rfl
     clear hE
     obtain ⟨r130, hr⟩ : ∃ r, law26_awake = r := ⟨_, rfl⟩
     replace hm := hm r130 hr
     rw [hr] at hp
     clear hr
     subst hp
     refine endP T hS (sp := []) (ks := [6]) (bs := []) (sy' := ⟨[(6, B r130)], []⟩) kr ?_
     intro a hS
     refine wret ?_
     exact fin T hS hO (fun c => c) rfl (r := [.bool r130]) kr (fun χ' hM hC => ⟨r130, hm, rfl⟩)
    ·replace hS := hS.lit (t := 75) kr hb
     replace hm := hm.2 hb
     refine endP T hS (sp := []) (ks := [6]) (bs := []) (sy' := ⟨[(6, B false)], []⟩) kr ?_
     intro a hS
     refine wret ?_
     exact fin T hS hO (fun c => c) rfl (r := [.bool false]) kr (fun χ' hM hC => ⟨false, hm, rfl⟩)
   ·replace hm := hm.2 hb
    refine wskip ?_
    refine regO ?_
    refine opsP T hS 1 (sp := []) (ks := [12, 79]) (bs := [13]) (sy' := ⟨[(12, Pt 13 0), (79, V (.agg #[.int .i64 r116.1.Object.States, .int .i64 r116.1.Object.Kinds, .int .i64 r116.1.Object.Init, .slice a117 r116.1.Object.Rows.length c118, .slice a120 r116.1.Events.length c121]))], [(13, (28, [I r116.1.Object.States, I r116.1.Object.Kinds, I r116.1.Object.Init, V (.slice a117 r116.1.Object.Rows.length c118), V (.slice a120 r116.1.Events.length c121)]))]⟩) kr ?_
    intro a hS
    obtain ⟨hq, hm⟩ := hm
    refine op1 (call hS kr kr hb12 kr (fun _ _ => rfl) (k12 _ _ r116.1 a117 c118 a120 c121 hq h119 h122 hAmb) ?_)
    intro v131 a w132 χ133 hE hp hS
    clear hq
    replace hO := hO.mv hE rfl rfl
    replace hAmb := hAmb.mv hE rfl
    replace h119 := h119.mv hE rfl
    replace h122 := h122.mv hE rfl
    clear hE
    obtain ⟨r134, hr⟩ : ∃ r, histtext_Print r116.1 = r := ⟨_, rfl⟩
    replace hm := hm r134 hr
    rw [hr] at hp
    clear hr
    subst hp
    refine endP T hS (sp := []) (ks := [12, 15, 16]) (bs := [13]) (sy' := ⟨[(12, Pt 13 0), (15, V (.string (bs r134.1))), (16, I r134.2)], [(13, (28, [I r116.1.Object.States, I r116.1.Object.Kinds, I r116.1.Object.Init, V (.slice a117 r116.1.Object.Rows.length c118), V (.slice a120 r116.1.Events.length c121)]))]⟩) kr ?_
    intro a hS
    refine regO ?_
    refine opsP T hS 1 (sp := []) (ks := [12, 16, 84]) (bs := [13]) (sy' := ⟨[(12, Pt 13 0), (16, I r134.2), (84, V (.string (bs r134.1)))], [(13, (28, [I r116.1.Object.States, I r116.1.Object.Kinds, I r116.1.Object.Init, V (.slice a117 r116.1.Object.Rows.length c118), V (.slice a120 r116.1.Events.length c121)]))]⟩) kr ?_
    intro a hS
    refine op1 (call hS kr kr hb8 kr (fun _ _ => rfl) (k8 _ _ r134.1) ?_)
    intro v135 a w136 χ137 hE hp hS
    replace hO := hO.mv hE rfl rfl
    replace hAmb := hAmb.mv hE rfl
    replace h119 := h119.mv hE rfl
    replace h122 := h122.mv hE rfl
    clear hE
    obtain ⟨a139, c140, a142, c143, hp, h141, h144⟩ := hp
    obtain ⟨r138, hr⟩ : ∃ r, histtext_Parse r134.1 = r := ⟨_, rfl⟩
    replace hm := hm r138 hr
    rw [hr] at hp h141 h144
    clear hr
    subst hp
    replace hm := hm (h141.sm kr)
    replace hm := hm (h144.sm kr)
    refine endM T hS (sp := []) (ks := [12, 16, 17, 19]) (bs := [13, 18]) (sy' := ⟨[(12, Pt 13 0), (16, I r134.2), (17, Pt 18 0), (19, I r138.2.2)], [(13, (28, [I r116.1.Object.States, I r116.1.Object.Kinds, I r116.1.Object.Init, V (.slice a117 r116.1.Object.Rows.length c118), V (.slice a120 r116.1.Events.length c121)])), (18, (28, [I r138.1.Object.States, I r138.1.Object.Kinds, I r138.1.Object.Init, V (.slice a139 r138.1.Object.Rows.length c140), V (.slice a142 r138.1.Events.length c143)]))]⟩) kr ?_
    intro ρ a w157 χ158 hS hE hr
    replace hO := hO.mv hE rfl rfl
    replace hAmb := hAmb.mv hE rfl
    replace h119 := h119.mv hE rfl
    replace h122 := h122.mv hE rfl
    replace h141 := h141.mv hE rfl
    replace h144 := h144.mv hE rfl
    clear hE hr
    refine regO ?_
    refine opsP T hS 1 (sp := []) (ks := [12, 16, 17, 19, 89]) (bs := [13, 18]) (sy' := ⟨[(12, Pt 13 0), (16, I r134.2), (17, Pt 18 0), (19, I r138.2.2), (89, V (.agg #[.int .i64 r116.1.Object.States, .int .i64 r116.1.Object.Kinds, .int .i64 r116.1.Object.Init, .slice a117 r116.1.Object.Rows.length c118, .slice a120 r116.1.Events.length c121]))], [(13, (28, [I r116.1.Object.States, I r116.1.Object.Kinds, I r116.1.Object.Init, V (.slice a117 r116.1.Object.Rows.length c118), V (.slice a120 r116.1.Events.length c121)])), (18, (28, [I r138.1.Object.States, I r138.1.Object.Kinds, I r138.1.Object.Init, V (.slice a139 r138.1.Object.Rows.length c140), V (.slice a142 r138.1.Events.length c143)]))]⟩) kr ?_
    intro a hS
    obtain ⟨hq, hm⟩ := hm
    refine op1 (call hS kr kr hb14 kr (fun _ _ => rfl) (k14 _ _ r116.1 a117 c118 a120 c121 hq h119 h122) ?_)
    intro v145 a w146 χ147 hE hp hS
    clear hq
    replace hO := hO.mv hE rfl rfl
    replace hAmb := hAmb.mv hE rfl
    replace h119 := h119.mv hE rfl
    replace h122 := h122.mv hE rfl
    replace h141 := h141.mv hE rfl
    replace h144 := h144.mv hE rfl
    clear hE
    obtain ⟨r148, hr⟩ : ∃ r, histtext_Check r116.1 = r := ⟨_, rfl⟩
    replace hm := hm r148 hr
    rw [hr] at hp
    clear hr
    subst hp
    refine opsP T hS 10 (sp := [92, 96]) (ks := [12, 17, 100]) (bs := [13, 18]) (sy' := ⟨[(12, Pt 13 0), (17, Pt 18 0), (100, B (((r148 == 0) && (r134.2 == 0)) && (r138.2.2 == 0)))], [(13, (28, [I r116.1.Object.States, I r116.1.Object.Kinds, I r116.1.Object.Init, V (.slice a117 r116.1.Object.Rows.length c118), V (.slice a120 r116.1.Events.length c121)])), (18, (28, [I r138.1.Object.States, I r138.1.Object.Kinds, I r138.1.Object.Init, V (.slice a139 r138.1.Object.Rows.length c140), V (.slice a142 r138.1.Events.length c143)]))]⟩) kr ?_
    intro a hS
    rcases Bool.eq_false_or_eq_true (((r148 == 0) && (r134.2 == 0)) && (r138.2.2 == 0)) with hb | hb
    ·replace hS := hS.lit (t := 100) kr hb
     replace hm := hm.1 hb
     refine opsP T hS 5 (sp := []) (ks := [100, 101, 103, 105]) (bs := []) (sy' := ⟨[(100, B true), (101, V (.agg #[.int .i64 r138.1.Object.States, .int .i64 r138.1.Object.Kinds, .int .i64 r138.1.Object.Init, .slice a139 r138.1.Object.Rows.length c140, .slice a142 r138.1.Events.length c143])), (103, V (.agg #[.int .i64 r116.1.Object.States, .int .i64 r116.1.Object.Kinds, .int .i64 r116.1.Object.Init, .slice a117 r116.1.Object.Rows.length c118])), (105, V (.slice a120 r116.1.Events.length c121))], []⟩) kr ?_
     intro a hS
     refine op1 (call hS kr kr hb10 kr (fun _ _ => rfl) (k10 _ _ r138.1 r116.1.Object r116.1.Events a139 c140 a142 c143 a117 c118 a120 c121 h141 h144 h119 h122) ?_)
     intro v149 a w150 χ151 hE hp hS
     replace hO := hO.mv hE rfl rfl
     replace hAmb := hAmb.mv hE rfl
     replace h119 := h119.mv hE rfl
     replace h122 := h122.mv hE rfl
     replace h141 := h141.mv hE rfl
     replace h144 := h144.mv hE rfl
     clear hE
     obtain ⟨r152, hr⟩ : ∃ r, law26_same r138.1 r116.1.Object r116.1.Events = r := ⟨_, rfl⟩
     replace hm := hm r152 hr
     rw [hr] at hp
     clear hr
     subst hp
     refine opsP T hS 2 (sp := []) (ks := [108]) (bs := []) (sy' := ⟨[(108, B r152)], []⟩) kr ?_
     intro a hS
     rcases Bool.eq_false_or_eq_true r152 with hb | hb
     ·replace hS := hS.lit (t := 108) kr hb
      replace hm := hm.1 hb
      refine op1 (call hS kr kr hb7 kr (fun _ _ => rfl) (k7 _ _ hAmb) ?_)
      intro v153 a w154 χ155 hE hp hS
      replace hO := hO.mv hE rfl rfl
      replace hAmb := hAmb.mv hE rfl
      clear hE
      obtain ⟨r156, hr⟩ : ∃ r, law26_awake = r := ⟨_, rfl⟩
      replace hm := hm r156 hr
      rw [hr] at hp
      clear hr
      subst hp
      refine endP T hS (sp := []) (ks := [6]) (bs := []) (sy' := ⟨[(6, B r156)], []⟩) kr ?_
      intro a hS
      refine wret ?_
      exact fin T hS hO (fun c => c) rfl (r := [.bool r156]) kr (fun χ' hM hC => ⟨r156, hm, rfl⟩)
     ·replace hS := hS.lit (t := 108) kr hb
      replace hm := hm.2 hb
      refine endP T hS (sp := []) (ks := [6]) (bs := []) (sy' := ⟨[(6, B false)], []⟩) kr ?_
      intro a hS
      refine wret ?_
      exact fin T hS hO (fun c => c) rfl (r := [.bool false]) kr (fun χ' hM hC => ⟨false, hm, rfl⟩)
    ·replace hS := hS.lit (t := 100) kr hb
     replace hm := hm.2 hb
     refine endP T hS (sp := []) (ks := [6]) (bs := []) (sy' := ⟨[(6, B false)], []⟩) kr ?_
     intro a hS
     refine wret ?_
     exact fin T hS hO (fun c => c) rfl (r := [.bool false]) kr (fun χ' hM hC => ⟨false, hm, rfl⟩)
end Go.Proofs.YtcjldfbgccmpkaaDoor
