/- Walks: each function returns what its condition asks. Condition: the contracts of its callees, handed in. -/
import Derived.Test.YtnhdgebboafliaaRWalksB
set_option linter.all false
namespace Go.Proofs.Ytnhdgebboafliaa
open Go Go.Sv
set_option maxHeartbeats 1000000
/-- replevin/replevinlaw28.RunTells -/
theorem W3 (k12 : S12) (k13 : S13) (k14 : S14) (k15 : S15) (k16 : S16) (k17 : S17) (k18 : S18) (k19 : S19) (k20 : S20) (k21 : S21) (w0 : World) (χ0 : Nat → Nat) (o_ : Api_Object) (l_ : List Api_Oper) (x_ : Law28_Case) (a1 : Option Addr) (c1 : Nat) (a2 : Option Addr) (c2 : Nat) (a3 : Option Addr) (c3 : Nat) (Q : Bool → Prop) (hm : VC3 o_ l_ x_ Q) (h1 : RS tApi_Row w0 χ0 a1 o_.Rows c1) (h2 : RS tApi_Oper w0 χ0 a2 l_ c2) (h3 : RS tApi_Pick w0 χ0 a3 x_.Picks c3) :
    Ret Try.prog 3 #[.agg #[.int .i64 o_.States, .int .i64 o_.Kinds, .int .i64 o_.Init, .slice a1 o_.Rows.length c1], .slice a2 l_.length c2, .agg #[.slice a3 x_.Picks.length c3, .int .i64 x_.State, .int .i64 x_.Kind, .int .i64 x_.Result]] xnone w0 χ0 (fun w χ' v => ∃ r, Q r ∧ v = .bool r) := by
  unfold VC3 at hm
  replace hm := hm (h1.sm (by kernel_rfl))
  replace hm := hm (h2.sm (by kernel_rfl))
  replace hm := hm (h3.sm (by kernel_rfl))
  refine enter Try.func3 rfl (vals := [.agg #[.int .i64 o_.States, .int .i64 o_.Kinds, .int .i64 o_.Init, .slice a1 o_.Rows.length c1], .slice a2 l_.length c2, .agg #[.slice a3 x_.Picks.length c3, .int .i64 x_.State, .int .i64 x_.Kind, .int .i64 x_.Result]]) (by kernel_rfl) ?_
  intro ρ a hS hO hM
  replace h1 := h1.m0 hM
  replace h2 := h2.m0 hM
  replace h3 := h3.m0 hM
  clear hM
  refine regM T hS (sp := []) (ks := [1, 3, 5]) (bs := [4, 6]) (sy' := ⟨[(1, V (.slice a2 l_.length c2)), (3, Pt 4 0), (5, Pt 6 0)], [(4, (24, [I o_.States, I o_.Kinds, I o_.Init, V (.slice a1 o_.Rows.length c1)])), (6, (28, [V (.slice a3 x_.Picks.length c3), I x_.State, I x_.Kind, I x_.Result]))]⟩) (by kernel_rfl) ?_
  intro ρ a w156 χ157 hS hE hr
  replace hO := hO.mv hE rfl rfl
  replace h1 := h1.mv hE rfl
  replace h2 := h2.mv hE rfl
  replace h3 := h3.mv hE rfl
  clear hE hr
  refine wseq ?_
  refine regO ?_
  refine opsP T hS 1 (sp := []) (ks := [1, 3, 5, 23]) (bs := [4, 6]) (sy' := ⟨[(1, V (.slice a2 l_.length c2)), (3, Pt 4 0), (5, Pt 6 0), (23, V (.agg #[.int .i64 o_.States, .int .i64 o_.Kinds, .int .i64 o_.Init, .slice a1 o_.Rows.length c1]))], [(4, (24, [I o_.States, I o_.Kinds, I o_.Init, V (.slice a1 o_.Rows.length c1)])), (6, (28, [V (.slice a3 x_.Picks.length c3), I x_.State, I x_.Kind, I x_.Result]))]⟩) (by kernel_rfl) ?_
  intro a hS
  refine op1 (call hS (by kernel_rfl) (by kernel_rfl) hb12 (by kernel_rfl) (fun _ _ => rfl) (k12 _ _ o_ a1 c1 h1) ?_)
  intro v101 a w102 χ103 hE hp hS
  replace hO := hO.mv hE rfl rfl
  replace h1 := h1.mv hE rfl
  replace h2 := h2.mv hE rfl
  replace h3 := h3.mv hE rfl
  clear hE
  obtain ⟨r104, hr⟩ : ∃ r, law23_Few o_ = r := ⟨_, rfl⟩
  replace hm := hm r104 hr
  rw [hr] at hp
  clear hr
  subst hp
  refine endP T hS (sp := [26, 31]) (ks := [1, 3, 5, 36]) (bs := [4, 6]) (sy' := ⟨[(1, V (.slice a2 l_.length c2)), (3, Pt 4 0), (5, Pt 6 0), (36, B (((!r104) || (decide (((l_.length : Nat) : Int) > 60))) || (decide (((x_.Picks.length : Nat) : Int) > 60))))], [(4, (24, [I o_.States, I o_.Kinds, I o_.Init, V (.slice a1 o_.Rows.length c1)])), (6, (28, [V (.slice a3 x_.Picks.length c3), I x_.State, I x_.Kind, I x_.Result]))]⟩) (by kernel_rfl) ?_
  intro a hS
  refine wcond hS (b := (((!r104) || (decide (((l_.length : Nat) : Int) > 60))) || (decide (((x_.Picks.length : Nat) : Int) > 60)))) (by kernel_rfl) (fun hb => ?_) (fun hb => ?_)
  · replace hm := hm.1 hb
    refine regO ?_
    refine op1 (call hS (by kernel_rfl) (by kernel_rfl) hb13 (by kernel_rfl) (fun _ _ => rfl) (k13 _ _) ?_)
    intro v105 a w106 χ107 hE hp hS
    replace hO := hO.mv hE rfl rfl
    replace h1 := h1.mv hE rfl
    replace h2 := h2.mv hE rfl
    replace h3 := h3.mv hE rfl
    clear hE
    obtain ⟨r108, hr⟩ : ∃ r, law28_awake = r := ⟨_, rfl⟩
    replace hm := hm r108 hr
    rw [hr] at hp
    clear hr
    subst hp
    refine endP T hS (sp := []) (ks := [6]) (bs := []) (sy' := ⟨[(6, B r108)], []⟩) (by kernel_rfl) ?_
    intro a hS
    refine wret ?_
    exact fin T hS hO (fun c => c) rfl (r := [.bool r108]) (by kernel_rfl) (fun χ' hM hC => ⟨r108, hm, rfl⟩)
  · replace hm := hm.2 hb
    refine wskip ?_
    refine regO ?_
    refine opsP T hS 4 (sp := []) (ks := [1, 3, 5, 39, 40, 42]) (bs := [4, 6]) (sy' := ⟨[(1, V (.slice a2 l_.length c2)), (3, Pt 4 0), (5, Pt 6 0), (39, V (.agg #[.int .i64 o_.States, .int .i64 o_.Kinds, .int .i64 o_.Init, .slice a1 o_.Rows.length c1])), (40, V (.slice a2 l_.length c2)), (42, V (.slice a3 x_.Picks.length c3))], [(4, (24, [I o_.States, I o_.Kinds, I o_.Init, V (.slice a1 o_.Rows.length c1)])), (6, (28, [V (.slice a3 x_.Picks.length c3), I x_.State, I x_.Kind, I x_.Result]))]⟩) (by kernel_rfl) ?_
    intro a hS
    obtain ⟨hq, hm⟩ := hm
    refine op1 (call hS (by kernel_rfl) (by kernel_rfl) hb14 (by kernel_rfl) (fun _ _ => rfl) (k14 _ _ o_ l_ x_.Picks a1 c1 a2 c2 a3 c3 hq h1 h2 h3) ?_)
    intro v109 a w110 χ111 hE hp hS
    clear hq
    replace hO := hO.mv hE rfl rfl
    replace h1 := h1.mv hE rfl
    replace h2 := h2.mv hE rfl
    replace h3 := h3.mv hE rfl
    clear hE
    obtain ⟨r112, hr⟩ : ∃ r, run_Picks o_ l_ x_.Picks = r := ⟨_, rfl⟩
    replace hm := hm r112 hr
    rw [hr] at hp
    clear hr
    subst hp
    refine endP T hS (sp := []) (ks := [1, 3, 5, 7, 8, 9]) (bs := [4, 6]) (sy' := ⟨[(1, V (.slice a2 l_.length c2)), (3, Pt 4 0), (5, Pt 6 0), (7, I r112.1), (8, I r112.2.1), (9, I r112.2.2)], [(4, (24, [I o_.States, I o_.Kinds, I o_.Init, V (.slice a1 o_.Rows.length c1)])), (6, (28, [V (.slice a3 x_.Picks.length c3), I x_.State, I x_.Kind, I x_.Result]))]⟩) (by kernel_rfl) ?_
    intro a hS
    refine regO ?_
    refine opsP T hS 6 (sp := []) (ks := [1, 3, 5, 7, 8, 9, 48, 49, 51, 53]) (bs := [4, 6]) (sy' := ⟨[(1, V (.slice a2 l_.length c2)), (3, Pt 4 0), (5, Pt 6 0), (7, I r112.1), (8, I r112.2.1), (9, I r112.2.2), (48, V (.agg #[.int .i64 o_.States, .int .i64 o_.Kinds, .int .i64 o_.Init, .slice a1 o_.Rows.length c1])), (49, V (.slice a2 l_.length c2)), (51, I o_.Init), (53, V (.slice a3 x_.Picks.length c3))], [(4, (24, [I o_.States, I o_.Kinds, I o_.Init, V (.slice a1 o_.Rows.length c1)])), (6, (28, [V (.slice a3 x_.Picks.length c3), I x_.State, I x_.Kind, I x_.Result]))]⟩) (by kernel_rfl) ?_
    intro a hS
    refine op1 (call hS (by kernel_rfl) (by kernel_rfl) hb15 (by kernel_rfl) (fun _ _ => rfl) (k15 _ _ o_ l_ o_.Init x_.Picks a1 c1 a2 c2 a3 c3 h1 h2 h3) ?_)
    intro v113 a w114 χ115 hE hp hS
    replace hO := hO.mv hE rfl rfl
    replace h1 := h1.mv hE rfl
    replace h2 := h2.mv hE rfl
    replace h3 := h3.mv hE rfl
    clear hE
    obtain ⟨r116, hr⟩ : ∃ r, ref28_From o_ l_ o_.Init x_.Picks = r := ⟨_, rfl⟩
    replace hm := hm r116 hr
    rw [hr] at hp
    clear hr
    subst hp
    refine endP T hS (sp := []) (ks := [1, 3, 5, 7, 8, 9, 10, 11, 12]) (bs := [4, 6]) (sy' := ⟨[(1, V (.slice a2 l_.length c2)), (3, Pt 4 0), (5, Pt 6 0), (7, I r112.1), (8, I r112.2.1), (9, I r112.2.2), (10, I r116.1), (11, I r116.2.1), (12, I r116.2.2)], [(4, (24, [I o_.States, I o_.Kinds, I o_.Init, V (.slice a1 o_.Rows.length c1)])), (6, (28, [V (.slice a3 x_.Picks.length c3), I x_.State, I x_.Kind, I x_.Result]))]⟩) (by kernel_rfl) ?_
    intro a hS
    refine regO ?_
    refine opsP T hS 6 (sp := []) (ks := [1, 3, 5, 7, 8, 9, 10, 11, 12, 59, 60, 62, 64]) (bs := [4, 6]) (sy' := ⟨[(1, V (.slice a2 l_.length c2)), (3, Pt 4 0), (5, Pt 6 0), (7, I r112.1), (8, I r112.2.1), (9, I r112.2.2), (10, I r116.1), (11, I r116.2.1), (12, I r116.2.2), (59, V (.agg #[.int .i64 o_.States, .int .i64 o_.Kinds, .int .i64 o_.Init, .slice a1 o_.Rows.length c1])), (60, V (.slice a2 l_.length c2)), (62, I x_.State), (64, V (.slice a3 x_.Picks.length c3))], [(4, (24, [I o_.States, I o_.Kinds, I o_.Init, V (.slice a1 o_.Rows.length c1)])), (6, (28, [V (.slice a3 x_.Picks.length c3), I x_.State, I x_.Kind, I x_.Result]))]⟩) (by kernel_rfl) ?_
    intro a hS
    obtain ⟨hq, hm⟩ := hm
    refine op1 (call hS (by kernel_rfl) (by kernel_rfl) hb16 (by kernel_rfl) (fun _ _ => rfl) (k16 _ _ o_ l_ x_.State x_.Picks a1 c1 a2 c2 a3 c3 hq h1 h2 h3) ?_)
    intro v117 a w118 χ119 hE hp hS
    clear hq
    replace hO := hO.mv hE rfl rfl
    replace h1 := h1.mv hE rfl
    replace h2 := h2.mv hE rfl
    replace h3 := h3.mv hE rfl
    clear hE
    obtain ⟨r120, hr⟩ : ∃ r, run_From o_ l_ x_.State x_.Picks = r := ⟨_, rfl⟩
    replace hm := hm r120 hr
    rw [hr] at hp
    clear hr
    subst hp
    refine endP T hS (sp := []) (ks := [1, 3, 5, 7, 8, 9, 10, 11, 12, 13, 14, 15]) (bs := [4, 6]) (sy' := ⟨[(1, V (.slice a2 l_.length c2)), (3, Pt 4 0), (5, Pt 6 0), (7, I r112.1), (8, I r112.2.1), (9, I r112.2.2), (10, I r116.1), (11, I r116.2.1), (12, I r116.2.2), (13, I r120.1), (14, I r120.2.1), (15, I r120.2.2)], [(4, (24, [I o_.States, I o_.Kinds, I o_.Init, V (.slice a1 o_.Rows.length c1)])), (6, (28, [V (.slice a3 x_.Picks.length c3), I x_.State, I x_.Kind, I x_.Result]))]⟩) (by kernel_rfl) ?_
    intro a hS
    refine regO ?_
    refine opsP T hS 6 (sp := []) (ks := [1, 3, 5, 7, 8, 9, 10, 11, 12, 13, 14, 15, 70, 71, 73, 75]) (bs := [4, 6]) (sy' := ⟨[(1, V (.slice a2 l_.length c2)), (3, Pt 4 0), (5, Pt 6 0), (7, I r112.1), (8, I r112.2.1), (9, I r112.2.2), (10, I r116.1), (11, I r116.2.1), (12, I r116.2.2), (13, I r120.1), (14, I r120.2.1), (15, I r120.2.2), (70, V (.agg #[.int .i64 o_.States, .int .i64 o_.Kinds, .int .i64 o_.Init, .slice a1 o_.Rows.length c1])), (71, V (.slice a2 l_.length c2)), (73, I x_.State), (75, V (.slice a3 x_.Picks.length c3))], [(4, (24, [I o_.States, I o_.Kinds, I o_.Init, V (.slice a1 o_.Rows.length c1)])), (6, (28, [V (.slice a3 x_.Picks.length c3), I x_.State, I x_.Kind, I x_.Result]))]⟩) (by kernel_rfl) ?_
    intro a hS
    refine op1 (call hS (by kernel_rfl) (by kernel_rfl) hb15 (by kernel_rfl) (fun _ _ => rfl) (k15 _ _ o_ l_ x_.State x_.Picks a1 c1 a2 c2 a3 c3 h1 h2 h3) ?_)
    intro v121 a w122 χ123 hE hp hS
    replace hO := hO.mv hE rfl rfl
    replace h1 := h1.mv hE rfl
    replace h2 := h2.mv hE rfl
    replace h3 := h3.mv hE rfl
    clear hE
    obtain ⟨r124, hr⟩ : ∃ r, ref28_From o_ l_ x_.State x_.Picks = r := ⟨_, rfl⟩
    replace hm := hm r124 hr
    rw [hr] at hp
    clear hr
    subst hp
    refine endP T hS (sp := []) (ks := [1, 3, 5, 7, 8, 9, 10, 11, 12, 13, 14, 15, 16, 17, 18]) (bs := [4, 6]) (sy' := ⟨[(1, V (.slice a2 l_.length c2)), (3, Pt 4 0), (5, Pt 6 0), (7, I r112.1), (8, I r112.2.1), (9, I r112.2.2), (10, I r116.1), (11, I r116.2.1), (12, I r116.2.2), (13, I r120.1), (14, I r120.2.1), (15, I r120.2.2), (16, I r124.1), (17, I r124.2.1), (18, I r124.2.2)], [(4, (24, [I o_.States, I o_.Kinds, I o_.Init, V (.slice a1 o_.Rows.length c1)])), (6, (28, [V (.slice a3 x_.Picks.length c3), I x_.State, I x_.Kind, I x_.Result]))]⟩) (by kernel_rfl) ?_
    intro a hS
    refine regO ?_
    refine opsP T hS 7 (sp := []) (ks := [1, 3, 5, 7, 8, 9, 10, 11, 12, 13, 14, 15, 16, 17, 18, 81, 83, 85, 87]) (bs := [4, 6]) (sy' := ⟨[(1, V (.slice a2 l_.length c2)), (3, Pt 4 0), (5, Pt 6 0), (7, I r112.1), (8, I r112.2.1), (9, I r112.2.2), (10, I r116.1), (11, I r116.2.1), (12, I r116.2.2), (13, I r120.1), (14, I r120.2.1), (15, I r120.2.2), (16, I r124.1), (17, I r124.2.1), (18, I r124.2.2), (81, V (.agg #[.int .i64 o_.States, .int .i64 o_.Kinds, .int .i64 o_.Init, .slice a1 o_.Rows.length c1])), (83, I x_.State), (85, I x_.Kind), (87, I x_.Result)], [(4, (24, [I o_.States, I o_.Kinds, I o_.Init, V (.slice a1 o_.Rows.length c1)])), (6, (28, [V (.slice a3 x_.Picks.length c3), I x_.State, I x_.Kind, I x_.Result]))]⟩) (by kernel_rfl) ?_
    intro a hS
    refine op1 (call hS (by kernel_rfl) (by kernel_rfl) hb17 (by kernel_rfl) (fun _ _ => rfl) (k17 _ _ o_ x_.State x_.Kind x_.Result a1 c1 h1) ?_)
    intro v125 a w126 χ127 hE hp hS
    replace hO := hO.mv hE rfl rfl
    replace h1 := h1.mv hE rfl
    replace h2 := h2.mv hE rfl
    replace h3 := h3.mv hE rfl
    clear hE
    obtain ⟨r128, hr⟩ : ∃ r, run_Step o_ x_.State x_.Kind x_.Result = r := ⟨_, rfl⟩
    replace hm := hm r128 hr
    rw [hr] at hp
    clear hr
    subst hp
    refine endP T hS (sp := []) (ks := [1, 3, 5, 7, 8, 9, 10, 11, 12, 13, 14, 15, 16, 17, 18, 19, 20]) (bs := [4, 6]) (sy' := ⟨[(1, V (.slice a2 l_.length c2)), (3, Pt 4 0), (5, Pt 6 0), (7, I r112.1), (8, I r112.2.1), (9, I r112.2.2), (10, I r116.1), (11, I r116.2.1), (12, I r116.2.2), (13, I r120.1), (14, I r120.2.1), (15, I r120.2.2), (16, I r124.1), (17, I r124.2.1), (18, I r124.2.2), (19, I r128.1), (20, I r128.2)], [(4, (24, [I o_.States, I o_.Kinds, I o_.Init, V (.slice a1 o_.Rows.length c1)])), (6, (28, [V (.slice a3 x_.Picks.length c3), I x_.State, I x_.Kind, I x_.Result]))]⟩) (by kernel_rfl) ?_
    intro a hS
    refine regO ?_
    refine opsP T hS 7 (sp := []) (ks := [1, 3, 5, 7, 8, 9, 10, 11, 12, 13, 14, 15, 16, 17, 18, 19, 20, 92, 94, 96, 98]) (bs := [4, 6]) (sy' := ⟨[(1, V (.slice a2 l_.length c2)), (3, Pt 4 0), (5, Pt 6 0), (7, I r112.1), (8, I r112.2.1), (9, I r112.2.2), (10, I r116.1), (11, I r116.2.1), (12, I r116.2.2), (13, I r120.1), (14, I r120.2.1), (15, I r120.2.2), (16, I r124.1), (17, I r124.2.1), (18, I r124.2.2), (19, I r128.1), (20, I r128.2), (92, V (.agg #[.int .i64 o_.States, .int .i64 o_.Kinds, .int .i64 o_.Init, .slice a1 o_.Rows.length c1])), (94, I x_.State), (96, I x_.Kind), (98, I x_.Result)], [(4, (24, [I o_.States, I o_.Kinds, I o_.Init, V (.slice a1 o_.Rows.length c1)])), (6, (28, [V (.slice a3 x_.Picks.length c3), I x_.State, I x_.Kind, I x_.Result]))]⟩) (by kernel_rfl) ?_
    intro a hS
    refine op1 (call hS (by kernel_rfl) (by kernel_rfl) hb18 (by kernel_rfl) (fun _ _ => rfl) (k18 _ _ o_ x_.State x_.Kind x_.Result a1 c1 h1) ?_)
    intro v129 a w130 χ131 hE hp hS
    replace hO := hO.mv hE rfl rfl
    replace h1 := h1.mv hE rfl
    replace h2 := h2.mv hE rfl
    replace h3 := h3.mv hE rfl
    clear hE
    obtain ⟨r132, hr⟩ : ∃ r, ref28_Step o_ x_.State x_.Kind x_.Result = r := ⟨_, rfl⟩
    replace hm := hm r132 hr
    rw [hr] at hp
    clear hr
    subst hp
    refine endP T hS (sp := []) (ks := [1, 3, 5, 7, 8, 9, 10, 11, 12, 13, 14, 15, 16, 17, 18, 19, 20, 21, 22]) (bs := [4, 6]) (sy' := ⟨[(1, V (.slice a2 l_.length c2)), (3, Pt 4 0), (5, Pt 6 0), (7, I r112.1), (8, I r112.2.1), (9, I r112.2.2), (10, I r116.1), (11, I r116.2.1), (12, I r116.2.2), (13, I r120.1), (14, I r120.2.1), (15, I r120.2.2), (16, I r124.1), (17, I r124.2.1), (18, I r124.2.2), (19, I r128.1), (20, I r128.2), (21, I r132.1), (22, I r132.2)], [(4, (24, [I o_.States, I o_.Kinds, I o_.Init, V (.slice a1 o_.Rows.length c1)])), (6, (28, [V (.slice a3 x_.Picks.length c3), I x_.State, I x_.Kind, I x_.Result]))]⟩) (by kernel_rfl) ?_
    intro a hS
    refine drawnS [4, 6] mixed hS ?_
    intro w133 hS hE hD hH
    replace hO := hO.mv hE rfl rfl
    replace h1 := h1.mv hE rfl
    replace h2 := h2.mv hE rfl
    replace h3 := h3.mv hE rfl
    clear hE
    refine take T [0, 1, 2, 3] [4, 6] [1, 3, 5, 8, 9, 11, 12, 13, 14, 15, 16, 17, 18, 19, 20, 21, 22, 105] hS (by kernel_rfl) (by kernel_rfl) (by kernel_rfl) hH (listed' := #[true, true, true, true, false, false, false, false, false, false, false, false, false, false, false, false, false, false, false, false, false, false, false, false, false, false, false, false, false, false, false, false, false, false, false, false, false, false, false, false, false, false, false, false, false, false, false, false, false, false, false, false, false, false, false]) (fuel := 51) (sy' := ⟨[(1, V (.slice a2 l_.length c2)), (3, Pt 4 0), (5, Pt 6 0), (8, I r112.2.1), (9, I r112.2.2), (11, I r116.2.1), (12, I r116.2.2), (13, I r120.1), (14, I r120.2.1), (15, I r120.2.2), (16, I r124.1), (17, I r124.2.1), (18, I r124.2.2), (19, I r128.1), (20, I r128.2), (21, I r132.1), (22, I r132.2), (105, B (r112.1 == r116.1))], [(4, (24, [I o_.States, I o_.Kinds, I o_.Init, V (.slice a1 o_.Rows.length c1)])), (6, (28, [V (.slice a3 x_.Picks.length c3), I x_.State, I x_.Kind, I x_.Result]))]⟩) (by as_aux_lemma => kernel_rfl) (by rfl) ?_
    intro a hS
    refine takeM (tc := 105) (b := (r112.1 == r116.1)) (f := fun c => ⟨[(1, V (.slice a2 l_.length c2)), (3, Pt 4 0), (5, Pt 6 0), (9, I r112.2.2), (12, I r116.2.2), (13, I r120.1), (14, I r120.2.1), (15, I r120.2.2), (16, I r124.1), (17, I r124.2.1), (18, I r124.2.2), (19, I r128.1), (20, I r128.2), (21, I r132.1), (22, I r132.2), (109, B (c && (r112.2.1 == r116.2.1)))], [(4, (24, [I o_.States, I o_.Kinds, I o_.Init, V (.slice a1 o_.Rows.length c1)])), (6, (28, [V (.slice a3 x_.Picks.length c3), I x_.State, I x_.Kind, I x_.Result]))]⟩) T [4, 5, 6, 7] [4, 6] [1, 3, 5, 9, 12, 13, 14, 15, 16, 17, 18, 19, 20, 21, 22, 109] hS (by kernel_rfl) (by kernel_rfl) (by kernel_rfl) (by kernel_rfl) hH (listed' := #[true, true, true, true, true, true, true, true, false, false, false, false, false, false, false, false, false, false, false, false, false, false, false, false, false, false, false, false, false, false, false, false, false, false, false, false, false, false, false, false, false, false, false, false, false, false, false, false, false, false, false, false, false, false, false]) (fuel := 47) (by kernel_rfl) (by kernel_rfl) (by rfl) ?_
    intro a hS
    refine take T [8] [4, 6] [1, 3, 5, 9, 12, 13, 14, 15, 16, 17, 18, 19, 20, 21, 22, 110] hS (by kernel_rfl) (by kernel_rfl) (by kernel_rfl) hH (listed' := #[true, true, true, true, true, true, true, true, true, false, false, false, false, false, false, false, false, false, false, false, false, false, false, false, false, false, false, false, false, false, false, false, false, false, false, false, false, false, false, false, false, false, false, false, false, false, false, false, false, false, false, false, false, false, false]) (fuel := 46) (sy' := ⟨[(1, V (.slice a2 l_.length c2)), (3, Pt 4 0), (5, Pt 6 0), (9, I r112.2.2), (12, I r116.2.2), (13, I r120.1), (14, I r120.2.1), (15, I r120.2.2), (16, I r124.1), (17, I r124.2.1), (18, I r124.2.2), (19, I r128.1), (20, I r128.2), (21, I r132.1), (22, I r132.2), (110, B ((r112.1 == r116.1) && (r112.2.1 == r116.2.1)))], [(4, (24, [I o_.States, I o_.Kinds, I o_.Init, V (.slice a1 o_.Rows.length c1)])), (6, (28, [V (.slice a3 x_.Picks.length c3), I x_.State, I x_.Kind, I x_.Result]))]⟩) (by as_aux_lemma => kernel_rfl) (by rfl) ?_
    intro a hS
    refine takeM (tc := 110) (b := ((r112.1 == r116.1) && (r112.2.1 == r116.2.1))) (f := fun c => ⟨[(1, V (.slice a2 l_.length c2)), (3, Pt 4 0), (5, Pt 6 0), (13, I r120.1), (14, I r120.2.1), (15, I r120.2.2), (16, I r124.1), (17, I r124.2.1), (18, I r124.2.2), (19, I r128.1), (20, I r128.2), (21, I r132.1), (22, I r132.2), (114, B (c && (r112.2.2 == r116.2.2)))], [(4, (24, [I o_.States, I o_.Kinds, I o_.Init, V (.slice a1 o_.Rows.length c1)])), (6, (28, [V (.slice a3 x_.Picks.length c3), I x_.State, I x_.Kind, I x_.Result]))]⟩) T [9, 10, 11, 12] [4, 6] [1, 3, 5, 13, 14, 15, 16, 17, 18, 19, 20, 21, 22, 114] hS (by kernel_rfl) (by kernel_rfl) (by kernel_rfl) (by kernel_rfl) hH (listed' := #[true, true, true, true, true, true, true, true, true, true, true, true, true, false, false, false, false, false, false, false, false, false, false, false, false, false, false, false, false, false, false, false, false, false, false, false, false, false, false, false, false, false, false, false, false, false, false, false, false, false, false, false, false, false, false]) (fuel := 42) (by kernel_rfl) (by kernel_rfl) (by rfl) ?_
    intro a hS
    refine take T [13] [4, 6] [1, 3, 5, 13, 14, 15, 16, 17, 18, 19, 20, 21, 22, 115] hS (by kernel_rfl) (by kernel_rfl) (by kernel_rfl) hH (listed' := #[true, true, true, true, true, true, true, true, true, true, true, true, true, true, false, false, false, false, false, false, false, false, false, false, false, false, false, false, false, false, false, false, false, false, false, false, false, false, false, false, false, false, false, false, false, false, false, false, false, false, false, false, false, false, false]) (fuel := 41) (sy' := ⟨[(1, V (.slice a2 l_.length c2)), (3, Pt 4 0), (5, Pt 6 0), (13, I r120.1), (14, I r120.2.1), (15, I r120.2.2), (16, I r124.1), (17, I r124.2.1), (18, I r124.2.2), (19, I r128.1), (20, I r128.2), (21, I r132.1), (22, I r132.2), (115, B (((r112.1 == r116.1) && (r112.2.1 == r116.2.1)) && (r112.2.2 == r116.2.2)))], [(4, (24, [I o_.States, I o_.Kinds, I o_.Init, V (.slice a1 o_.Rows.length c1)])), (6, (28, [V (.slice a3 x_.Picks.length c3), I x_.State, I x_.Kind, I x_.Result]))]⟩) (by as_aux_lemma => kernel_rfl) (by rfl) ?_
    intro a hS
    refine takeM (tc := 115) (b := (((r112.1 == r116.1) && (r112.2.1 == r116.2.1)) && (r112.2.2 == r116.2.2))) (f := fun c => ⟨[(1, V (.slice a2 l_.length c2)), (3, Pt 4 0), (5, Pt 6 0), (14, I r120.2.1), (15, I r120.2.2), (17, I r124.2.1), (18, I r124.2.2), (19, I r128.1), (20, I r128.2), (21, I r132.1), (22, I r132.2), (119, B (c && (r120.1 == r124.1)))], [(4, (24, [I o_.States, I o_.Kinds, I o_.Init, V (.slice a1 o_.Rows.length c1)])), (6, (28, [V (.slice a3 x_.Picks.length c3), I x_.State, I x_.Kind, I x_.Result]))]⟩) T [14, 15, 16, 17] [4, 6] [1, 3, 5, 14, 15, 17, 18, 19, 20, 21, 22, 119] hS (by kernel_rfl) (by kernel_rfl) (by kernel_rfl) (by kernel_rfl) hH (listed' := #[true, true, true, true, true, true, true, true, true, true, true, true, true, true, true, true, true, true, false, false, false, false, false, false, false, false, false, false, false, false, false, false, false, false, false, false, false, false, false, false, false, false, false, false, false, false, false, false, false, false, false, false, false, false, false]) (fuel := 37) (by kernel_rfl) (by kernel_rfl) (by rfl) ?_
    intro a hS
    refine take T [18] [4, 6] [1, 3, 5, 14, 15, 17, 18, 19, 20, 21, 22, 120] hS (by kernel_rfl) (by kernel_rfl) (by kernel_rfl) hH (listed' := #[true, true, true, true, true, true, true, true, true, true, true, true, true, true, true, true, true, true, true, false, false, false, false, false, false, false, false, false, false, false, false, false, false, false, false, false, false, false, false, false, false, false, false, false, false, false, false, false, false, false, false, false, false, false, false]) (fuel := 36) (sy' := ⟨[(1, V (.slice a2 l_.length c2)), (3, Pt 4 0), (5, Pt 6 0), (14, I r120.2.1), (15, I r120.2.2), (17, I r124.2.1), (18, I r124.2.2), (19, I r128.1), (20, I r128.2), (21, I r132.1), (22, I r132.2), (120, B ((((r112.1 == r116.1) && (r112.2.1 == r116.2.1)) && (r112.2.2 == r116.2.2)) && (r120.1 == r124.1)))], [(4, (24, [I o_.States, I o_.Kinds, I o_.Init, V (.slice a1 o_.Rows.length c1)])), (6, (28, [V (.slice a3 x_.Picks.length c3), I x_.State, I x_.Kind, I x_.Result]))]⟩) (by as_aux_lemma => kernel_rfl) (by rfl) ?_
    intro a hS
    refine takeM (tc := 120) (b := ((((r112.1 == r116.1) && (r112.2.1 == r116.2.1)) && (r112.2.2 == r116.2.2)) && (r120.1 == r124.1))) (f := fun c => ⟨[(1, V (.slice a2 l_.length c2)), (3, Pt 4 0), (5, Pt 6 0), (15, I r120.2.2), (18, I r124.2.2), (19, I r128.1), (20, I r128.2), (21, I r132.1), (22, I r132.2), (124, B (c && (r120.2.1 == r124.2.1)))], [(4, (24, [I o_.States, I o_.Kinds, I o_.Init, V (.slice a1 o_.Rows.length c1)])), (6, (28, [V (.slice a3 x_.Picks.length c3), I x_.State, I x_.Kind, I x_.Result]))]⟩) T [19, 20, 21, 22] [4, 6] [1, 3, 5, 15, 18, 19, 20, 21, 22, 124] hS (by kernel_rfl) (by kernel_rfl) (by kernel_rfl) (by kernel_rfl) hH (listed' := #[true, true, true, true, true, true, true, true, true, true, true, true, true, true, true, true, true, true, true, true, true, true, true, false, false, false, false, false, false, false, false, false, false, false, false, false, false, false, false, false, false, false, false, false, false, false, false, false, false, false, false, false, false, false, false]) (fuel := 32) (by kernel_rfl) (by kernel_rfl) (by rfl) ?_
    intro a hS
    refine take T [23] [4, 6] [1, 3, 5, 15, 18, 19, 20, 21, 22, 125] hS (by kernel_rfl) (by kernel_rfl) (by kernel_rfl) hH (listed' := #[true, true, true, true, true, true, true, true, true, true, true, true, true, true, true, true, true, true, true, true, true, true, true, true, false, false, false, false, false, false, false, false, false, false, false, false, false, false, false, false, false, false, false, false, false, false, false, false, false, false, false, false, false, false, false]) (fuel := 31) (sy' := ⟨[(1, V (.slice a2 l_.length c2)), (3, Pt 4 0), (5, Pt 6 0), (15, I r120.2.2), (18, I r124.2.2), (19, I r128.1), (20, I r128.2), (21, I r132.1), (22, I r132.2), (125, B (((((r112.1 == r116.1) && (r112.2.1 == r116.2.1)) && (r112.2.2 == r116.2.2)) && (r120.1 == r124.1)) && (r120.2.1 == r124.2.1)))], [(4, (24, [I o_.States, I o_.Kinds, I o_.Init, V (.slice a1 o_.Rows.length c1)])), (6, (28, [V (.slice a3 x_.Picks.length c3), I x_.State, I x_.Kind, I x_.Result]))]⟩) (by as_aux_lemma => kernel_rfl) (by rfl) ?_
    intro a hS
    refine takeM (tc := 125) (b := (((((r112.1 == r116.1) && (r112.2.1 == r116.2.1)) && (r112.2.2 == r116.2.2)) && (r120.1 == r124.1)) && (r120.2.1 == r124.2.1))) (f := fun c => ⟨[(1, V (.slice a2 l_.length c2)), (3, Pt 4 0), (5, Pt 6 0), (19, I r128.1), (20, I r128.2), (21, I r132.1), (22, I r132.2), (129, B (c && (r120.2.2 == r124.2.2)))], [(4, (24, [I o_.States, I o_.Kinds, I o_.Init, V (.slice a1 o_.Rows.length c1)])), (6, (28, [V (.slice a3 x_.Picks.length c3), I x_.State, I x_.Kind, I x_.Result]))]⟩) T [24, 25, 26, 27] [4, 6] [1, 3, 5, 19, 20, 21, 22, 129] hS (by kernel_rfl) (by kernel_rfl) (by kernel_rfl) (by kernel_rfl) hH (listed' := #[true, true, true, true, true, true, true, true, true, true, true, true, true, true, true, true, true, true, true, true, true, true, true, true, true, true, true, true, false, false, false, false, false, false, false, false, false, false, false, false, false, false, false, false, false, false, false, false, false, false, false, false, false, false, false]) (fuel := 27) (by kernel_rfl) (by kernel_rfl) (by rfl) ?_
    intro a hS
    refine take T [28] [4, 6] [1, 3, 5, 19, 20, 21, 22, 130] hS (by kernel_rfl) (by kernel_rfl) (by kernel_rfl) hH (listed' := #[true, true, true, true, true, true, true, true, true, true, true, true, true, true, true, true, true, true, true, true, true, true, true, true, true, true, true, true, true, false, false, false, false, false, false, false, false, false, false, false, false, false, false, false, false, false, false, false, false, false, false, false, false, false, false]) (fuel := 26) (sy' := ⟨[(1, V (.slice a2 l_.length c2)), (3, Pt 4 0), (5, Pt 6 0), (19, I r128.1), (20, I r128.2), (21, I r132.1), (22, I r132.2), (130, B ((((((r112.1 == r116.1) && (r112.2.1 == r116.2.1)) && (r112.2.2 == r116.2.2)) && (r120.1 == r124.1)) && (r120.2.1 == r124.2.1)) && (r120.2.2 == r124.2.2)))], [(4, (24, [I o_.States, I o_.Kinds, I o_.Init, V (.slice a1 o_.Rows.length c1)])), (6, (28, [V (.slice a3 x_.Picks.length c3), I x_.State, I x_.Kind, I x_.Result]))]⟩) (by as_aux_lemma => kernel_rfl) (by rfl) ?_
    intro a hS
    refine takeM (tc := 130) (b := ((((((r112.1 == r116.1) && (r112.2.1 == r116.2.1)) && (r112.2.2 == r116.2.2)) && (r120.1 == r124.1)) && (r120.2.1 == r124.2.1)) && (r120.2.2 == r124.2.2))) (f := fun c => ⟨[(1, V (.slice a2 l_.length c2)), (3, Pt 4 0), (5, Pt 6 0), (20, I r128.2), (22, I r132.2), (134, B (c && (r128.1 == r132.1)))], [(4, (24, [I o_.States, I o_.Kinds, I o_.Init, V (.slice a1 o_.Rows.length c1)])), (6, (28, [V (.slice a3 x_.Picks.length c3), I x_.State, I x_.Kind, I x_.Result]))]⟩) T [29, 30, 31, 32] [4, 6] [1, 3, 5, 20, 22, 134] hS (by kernel_rfl) (by kernel_rfl) (by kernel_rfl) (by kernel_rfl) hH (listed' := #[true, true, true, true, true, true, true, true, true, true, true, true, true, true, true, true, true, true, true, true, true, true, true, true, true, true, true, true, true, true, true, true, true, false, false, false, false, false, false, false, false, false, false, false, false, false, false, false, false, false, false, false, false, false, false]) (fuel := 22) (by kernel_rfl) (by kernel_rfl) (by rfl) ?_
    intro a hS
    refine take T [33] [4, 6] [1, 3, 5, 20, 22, 135] hS (by kernel_rfl) (by kernel_rfl) (by kernel_rfl) hH (listed' := #[true, true, true, true, true, true, true, true, true, true, true, true, true, true, true, true, true, true, true, true, true, true, true, true, true, true, true, true, true, true, true, true, true, true, false, false, false, false, false, false, false, false, false, false, false, false, false, false, false, false, false, false, false, false, false]) (fuel := 21) (sy' := ⟨[(1, V (.slice a2 l_.length c2)), (3, Pt 4 0), (5, Pt 6 0), (20, I r128.2), (22, I r132.2), (135, B (((((((r112.1 == r116.1) && (r112.2.1 == r116.2.1)) && (r112.2.2 == r116.2.2)) && (r120.1 == r124.1)) && (r120.2.1 == r124.2.1)) && (r120.2.2 == r124.2.2)) && (r128.1 == r132.1)))], [(4, (24, [I o_.States, I o_.Kinds, I o_.Init, V (.slice a1 o_.Rows.length c1)])), (6, (28, [V (.slice a3 x_.Picks.length c3), I x_.State, I x_.Kind, I x_.Result]))]⟩) (by as_aux_lemma => kernel_rfl) (by rfl) ?_
    intro a hS
    refine takeM (tc := 135) (b := (((((((r112.1 == r116.1) && (r112.2.1 == r116.2.1)) && (r112.2.2 == r116.2.2)) && (r120.1 == r124.1)) && (r120.2.1 == r124.2.1)) && (r120.2.2 == r124.2.2)) && (r128.1 == r132.1))) (f := fun c => ⟨[(1, V (.slice a2 l_.length c2)), (3, Pt 4 0), (5, Pt 6 0), (139, B (c && (r128.2 == r132.2)))], [(4, (24, [I o_.States, I o_.Kinds, I o_.Init, V (.slice a1 o_.Rows.length c1)])), (6, (28, [V (.slice a3 x_.Picks.length c3), I x_.State, I x_.Kind, I x_.Result]))]⟩) T [34, 35, 36, 37] [4, 6] [1, 3, 5, 139] hS (by kernel_rfl) (by kernel_rfl) (by kernel_rfl) (by kernel_rfl) hH (listed' := #[true, true, true, true, true, true, true, true, true, true, true, true, true, true, true, true, true, true, true, true, true, true, true, true, true, true, true, true, true, true, true, true, true, true, true, true, true, true, false, false, false, false, false, false, false, false, false, false, false, false, false, false, false, false, false]) (fuel := 17) (by kernel_rfl) (by kernel_rfl) (by rfl) ?_
    intro a hS
    refine take T [38] [4, 6] [1, 3, 5, 140] hS (by kernel_rfl) (by kernel_rfl) (by kernel_rfl) hH (listed' := #[true, true, true, true, true, true, true, true, true, true, true, true, true, true, true, true, true, true, true, true, true, true, true, true, true, true, true, true, true, true, true, true, true, true, true, true, true, true, true, false, false, false, false, false, false, false, false, false, false, false, false, false, false, false, false]) (fuel := 16) (sy' := ⟨[(1, V (.slice a2 l_.length c2)), (3, Pt 4 0), (5, Pt 6 0), (140, B ((((((((r112.1 == r116.1) && (r112.2.1 == r116.2.1)) && (r112.2.2 == r116.2.2)) && (r120.1 == r124.1)) && (r120.2.1 == r124.2.1)) && (r120.2.2 == r124.2.2)) && (r128.1 == r132.1)) && (r128.2 == r132.2)))], [(4, (24, [I o_.States, I o_.Kinds, I o_.Init, V (.slice a1 o_.Rows.length c1)])), (6, (28, [V (.slice a3 x_.Picks.length c3), I x_.State, I x_.Kind, I x_.Result]))]⟩) (by as_aux_lemma => kernel_rfl) (by rfl) ?_
    intro a hS
    rcases Bool.eq_false_or_eq_true ((((((((r112.1 == r116.1) && (r112.2.1 == r116.2.1)) && (r112.2.2 == r116.2.2)) && (r120.1 == r124.1)) && (r120.2.1 == r124.2.1)) && (r120.2.2 == r124.2.2)) && (r128.1 == r132.1)) && (r128.2 == r132.2)) with hb | hb
    · replace hS := hS.lit (t := 140) (by kernel_rfl) hb
      replace hm := hm.1 hb
      refine take T [39, 40, 41, 44, 45, 46, 42, 47] [4, 6] [140, 141, 142, 144, 146, 147, 149] hS (by kernel_rfl) (by kernel_rfl) (by kernel_rfl) hH (listed' := #[true, true, true, true, true, true, true, true, true, true, true, true, true, true, true, true, true, true, true, true, true, true, true, true, true, true, true, true, true, true, true, true, true, true, true, true, true, true, true, true, true, true, true, false, true, true, true, true, false, false, false, false, false, false, false]) (fuel := 8) (sy' := ⟨[(140, B true), (141, V (.agg #[.int .i64 o_.States, .int .i64 o_.Kinds, .int .i64 o_.Init, .slice a1 o_.Rows.length c1])), (142, V (.slice a2 l_.length c2)), (144, V (.slice a3 x_.Picks.length c3)), (146, V (.agg #[.int .i64 o_.States, .int .i64 o_.Kinds, .int .i64 o_.Init, .slice a1 o_.Rows.length c1])), (147, V (.slice a2 l_.length c2)), (149, V (.slice a3 x_.Picks.length c3))], [(4, (24, [I o_.States, I o_.Kinds, I o_.Init, V (.slice a1 o_.Rows.length c1)])), (6, (28, [V (.slice a3 x_.Picks.length c3), I x_.State, I x_.Kind, I x_.Result]))]⟩) (by as_aux_lemma => kernel_rfl) (by rfl) ?_
      intro a hS
      obtain ⟨hq, hm⟩ := hm
      refine only 43 (by kernel_rfl) (by rfl) (call hS (by kernel_rfl) (by kernel_rfl) hb20 (by kernel_rfl) (fun _ _ => rfl) (k20 _ _ o_ l_ x_.Picks a1 c1 a2 c2 a3 c3 hq h1 h2 h3) ?_)
      intro v134 a w135 χ136 hE hp hS
      clear hq
      replace hO := hO.mv hE rfl rfl
      replace hD := hD.ev hE rfl
      replace h1 := h1.mv hE rfl
      replace h2 := h2.mv hE rfl
      replace h3 := h3.mv hE rfl
      clear hE
      obtain ⟨a138, c139, hp, h140⟩ := hp
      obtain ⟨r137, hr⟩ : ∃ r, run_States o_ l_ x_.Picks = r := ⟨_, rfl⟩
      replace hm := hm r137 hr
      rw [hr] at hp h140
      clear hr
      subst hp
      replace hm := hm (h140.sm (by kernel_rfl))
      replace hS := hS.sel [140, 141, 142, 144, 146, 147, 149, 145] [4, 6] (sy' := ⟨[(140, B true), (141, V (.agg #[.int .i64 o_.States, .int .i64 o_.Kinds, .int .i64 o_.Init, .slice a1 o_.Rows.length c1])), (142, V (.slice a2 l_.length c2)), (144, V (.slice a3 x_.Picks.length c3)), (146, V (.agg #[.int .i64 o_.States, .int .i64 o_.Kinds, .int .i64 o_.Init, .slice a1 o_.Rows.length c1])), (147, V (.slice a2 l_.length c2)), (149, V (.slice a3 x_.Picks.length c3)), (145, V (.slice a138 r137.length c139))], [(4, (24, [I o_.States, I o_.Kinds, I o_.Init, V (.slice a1 o_.Rows.length c1)])), (6, (28, [V (.slice a3 x_.Picks.length c3), I x_.State, I x_.Kind, I x_.Result]))]⟩) (by kernel_rfl)
      refine andH (Hold.of hS (bks := [4, 6]) (by kernel_rfl) hD) ?_
      intro hH
      obtain ⟨hq, hm⟩ := hm
      refine only 48 (by kernel_rfl) (by rfl) (call hS (by kernel_rfl) (by kernel_rfl) hb21 (by kernel_rfl) (fun _ _ => rfl) (k21 _ _ o_ l_ x_.Picks a1 c1 a2 c2 a3 c3 hq h1 h2 h3) ?_)
      intro v141 a w142 χ143 hE hp hS
      clear hq
      replace hO := hO.mv hE rfl rfl
      replace hD := hD.ev hE rfl
      replace h1 := h1.mv hE rfl
      replace h2 := h2.mv hE rfl
      replace h3 := h3.mv hE rfl
      replace h140 := h140.mv hE rfl
      clear hE
      obtain ⟨a145, c146, hp, h147⟩ := hp
      obtain ⟨r144, hr⟩ : ∃ r, ref28_States o_ l_ x_.Picks = r := ⟨_, rfl⟩
      replace hm := hm r144 hr
      rw [hr] at hp h147
      clear hr
      subst hp
      replace hm := hm (h147.sm (by kernel_rfl))
      replace hS := hS.sel [140, 141, 142, 144, 146, 147, 149, 145, 150] [4, 6] (sy' := ⟨[(140, B true), (141, V (.agg #[.int .i64 o_.States, .int .i64 o_.Kinds, .int .i64 o_.Init, .slice a1 o_.Rows.length c1])), (142, V (.slice a2 l_.length c2)), (144, V (.slice a3 x_.Picks.length c3)), (146, V (.agg #[.int .i64 o_.States, .int .i64 o_.Kinds, .int .i64 o_.Init, .slice a1 o_.Rows.length c1])), (147, V (.slice a2 l_.length c2)), (149, V (.slice a3 x_.Picks.length c3)), (145, V (.slice a138 r137.length c139)), (150, V (.slice a145 r144.length c146))], [(4, (24, [I o_.States, I o_.Kinds, I o_.Init, V (.slice a1 o_.Rows.length c1)])), (6, (28, [V (.slice a3 x_.Picks.length c3), I x_.State, I x_.Kind, I x_.Result]))]⟩) (by kernel_rfl)
      refine andH (Hold.of hS (bks := [4, 6]) (by kernel_rfl) hD) ?_
      intro hH
      refine only 49 (by kernel_rfl) (by rfl) (call hS (by kernel_rfl) (by kernel_rfl) hb19 (by kernel_rfl) (fun _ _ => rfl) (k19 _ _ r137 r144 a138 c139 a145 c146 h140 h147) ?_)
      intro v148 a w149 χ150 hE hp hS
      replace hO := hO.mv hE rfl rfl
      replace hD := hD.ev hE rfl
      replace h1 := h1.mv hE rfl
      replace h2 := h2.mv hE rfl
      replace h3 := h3.mv hE rfl
      replace h140 := h140.mv hE rfl
      replace h147 := h147.mv hE rfl
      clear hE
      obtain ⟨r151, hr⟩ : ∃ r, ref01_SameInts r137 r144 = r := ⟨_, rfl⟩
      replace hm := hm r151 hr
      rw [hr] at hp
      clear hr
      subst hp
      replace hS := hS.sel [140, 141, 142, 144, 146, 147, 149, 145, 150, 151] [4, 6] (sy' := ⟨[(140, B true), (141, V (.agg #[.int .i64 o_.States, .int .i64 o_.Kinds, .int .i64 o_.Init, .slice a1 o_.Rows.length c1])), (142, V (.slice a2 l_.length c2)), (144, V (.slice a3 x_.Picks.length c3)), (146, V (.agg #[.int .i64 o_.States, .int .i64 o_.Kinds, .int .i64 o_.Init, .slice a1 o_.Rows.length c1])), (147, V (.slice a2 l_.length c2)), (149, V (.slice a3 x_.Picks.length c3)), (145, V (.slice a138 r137.length c139)), (150, V (.slice a145 r144.length c146)), (151, B r151)], [(4, (24, [I o_.States, I o_.Kinds, I o_.Init, V (.slice a1 o_.Rows.length c1)])), (6, (28, [V (.slice a3 x_.Picks.length c3), I x_.State, I x_.Kind, I x_.Result]))]⟩) (by kernel_rfl)
      refine andH (Hold.of hS (bks := [4, 6]) (by kernel_rfl) hD) ?_
      intro hH
      refine take T [50, 51] [4, 6] [153] hS (by kernel_rfl) (by kernel_rfl) (by kernel_rfl) hH (listed' := #[true, true, true, true, true, true, true, true, true, true, true, true, true, true, true, true, true, true, true, true, true, true, true, true, true, true, true, true, true, true, true, true, true, true, true, true, true, true, true, true, true, true, true, true, true, true, true, true, true, true, true, true, false, false, false]) (fuel := 3) (sy' := ⟨[(153, B r151)], [(4, (24, [I o_.States, I o_.Kinds, I o_.Init, V (.slice a1 o_.Rows.length c1)])), (6, (28, [V (.slice a3 x_.Picks.length c3), I x_.State, I x_.Kind, I x_.Result]))]⟩) (by as_aux_lemma => kernel_rfl) (by rfl) ?_
      intro a hS
      rcases Bool.eq_false_or_eq_true r151 with hb | hb
      · replace hS := hS.lit (t := 153) (by kernel_rfl) hb
        replace hm := hm.1 hb
        refine only 52 (by kernel_rfl) (by rfl) (call hS (by kernel_rfl) (by kernel_rfl) hb13 (by kernel_rfl) (fun _ _ => rfl) (k13 _ _) ?_)
        intro v152 a w153 χ154 hE hp hS
        replace hO := hO.mv hE rfl rfl
        replace hD := hD.ev hE rfl
        replace h1 := h1.mv hE rfl
        replace h2 := h2.mv hE rfl
        replace h3 := h3.mv hE rfl
        replace h140 := h140.mv hE rfl
        replace h147 := h147.mv hE rfl
        clear hE
        obtain ⟨r155, hr⟩ : ∃ r, law28_awake = r := ⟨_, rfl⟩
        replace hm := hm r155 hr
        rw [hr] at hp
        clear hr
        subst hp
        replace hS := hS.sel [153, 154] [4, 6] (sy' := ⟨[(153, B true), (154, B r155)], [(4, (24, [I o_.States, I o_.Kinds, I o_.Init, V (.slice a1 o_.Rows.length c1)])), (6, (28, [V (.slice a3 x_.Picks.length c3), I x_.State, I x_.Kind, I x_.Result]))]⟩) (by kernel_rfl)
        refine andH (Hold.of hS (bks := [4, 6]) (by kernel_rfl) hD) ?_
        intro hH
        refine take T [53, 54] [4, 6] [6] hS (by kernel_rfl) (by kernel_rfl) (by kernel_rfl) hH (listed' := #[true, true, true, true, true, true, true, true, true, true, true, true, true, true, true, true, true, true, true, true, true, true, true, true, true, true, true, true, true, true, true, true, true, true, true, true, true, true, true, true, true, true, true, true, true, true, true, true, true, true, true, true, true, true, true]) (fuel := 0) (sy' := ⟨[(6, B r155)], [(4, (24, [I o_.States, I o_.Kinds, I o_.Init, V (.slice a1 o_.Rows.length c1)])), (6, (28, [V (.slice a3 x_.Picks.length c3), I x_.State, I x_.Kind, I x_.Result]))]⟩) (by as_aux_lemma => kernel_rfl) (by rfl) ?_
        intro a hS
        refine drawnDone (by kernel_rfl) ?_
        clear hD hH
        replace hS := hS.sel [6] [] (sy' := ⟨[(6, B r155)], []⟩) (by kernel_rfl)
        refine wret ?_
        exact fin T hS hO (fun c => c) rfl (r := [.bool r155]) (by kernel_rfl) (fun χ' hM hC => ⟨r155, hm, rfl⟩)
      · replace hS := hS.lit (t := 153) (by kernel_rfl) hb
        replace hm := hm.2 hb
        refine take T [52, 53, 54] [4, 6] [6] hS (by kernel_rfl) (by kernel_rfl) (by kernel_rfl) hH (listed' := #[true, true, true, true, true, true, true, true, true, true, true, true, true, true, true, true, true, true, true, true, true, true, true, true, true, true, true, true, true, true, true, true, true, true, true, true, true, true, true, true, true, true, true, true, true, true, true, true, true, true, true, true, true, true, true]) (fuel := 0) (sy' := ⟨[(6, B false)], [(4, (24, [I o_.States, I o_.Kinds, I o_.Init, V (.slice a1 o_.Rows.length c1)])), (6, (28, [V (.slice a3 x_.Picks.length c3), I x_.State, I x_.Kind, I x_.Result]))]⟩) (by as_aux_lemma => kernel_rfl) (by rfl) ?_
        intro a hS
        refine drawnDone (by kernel_rfl) ?_
        clear hD hH
        replace hS := hS.sel [6] [] (sy' := ⟨[(6, B false)], []⟩) (by kernel_rfl)
        refine wret ?_
        exact fin T hS hO (fun c => c) rfl (r := [.bool false]) (by kernel_rfl) (fun χ' hM hC => ⟨false, hm, rfl⟩)
    · replace hS := hS.lit (t := 140) (by kernel_rfl) hb
      replace hm := hm.2 hb
      refine take T [39, 40, 41, 44, 45, 46, 42, 47, 43, 48, 49, 50, 51, 52, 53, 54] [4, 6] [6] hS (by kernel_rfl) (by kernel_rfl) (by kernel_rfl) hH (listed' := #[true, true, true, true, true, true, true, true, true, true, true, true, true, true, true, true, true, true, true, true, true, true, true, true, true, true, true, true, true, true, true, true, true, true, true, true, true, true, true, true, true, true, true, true, true, true, true, true, true, true, true, true, true, true, true]) (fuel := 0) (sy' := ⟨[(6, B false)], [(4, (24, [I o_.States, I o_.Kinds, I o_.Init, V (.slice a1 o_.Rows.length c1)])), (6, (28, [V (.slice a3 x_.Picks.length c3), I x_.State, I x_.Kind, I x_.Result]))]⟩) (by as_aux_lemma => kernel_rfl) (by rfl) ?_
      intro a hS
      refine drawnDone (by kernel_rfl) ?_
      clear hD hH
      replace hS := hS.sel [6] [] (sy' := ⟨[(6, B false)], []⟩) (by kernel_rfl)
      refine wret ?_
      exact fin T hS hO (fun c => c) rfl (r := [.bool false]) (by kernel_rfl) (fun χ' hM hC => ⟨false, hm, rfl⟩)
/-- replevin/replevinlaw28.RunFills -/
theorem W4 (k12 : S12) (k13 : S13) (k22 : S22) (k23 : S23) (k24 : S24) (w0 : World) (χ0 : Nat → Nat) (o_ : Api_Object) (l_ : List Api_Oper) (order : List Int) (a1 : Option Addr) (c1 : Nat) (a2 : Option Addr) (c2 : Nat) (a3 : Option Addr) (c3 : Nat) (Q : Bool → Prop) (hm : VC4 o_ l_ order Q) (h1 : RS tApi_Row w0 χ0 a1 o_.Rows c1) (h2 : RS tApi_Oper w0 χ0 a2 l_ c2) (h3 : RS tI w0 χ0 a3 order c3) :
    Ret Try.prog 4 #[.agg #[.int .i64 o_.States, .int .i64 o_.Kinds, .int .i64 o_.Init, .slice a1 o_.Rows.length c1], .slice a2 l_.length c2, .slice a3 order.length c3] xnone w0 χ0 (fun w χ' v => ∃ r, Q r ∧ v = .bool r) := by
  unfold VC4 at hm
  replace hm := hm (h1.sm (by kernel_rfl))
  replace hm := hm (h2.sm (by kernel_rfl))
  replace hm := hm (h3.sm (by kernel_rfl))
  refine enter Try.func4 rfl (vals := [.agg #[.int .i64 o_.States, .int .i64 o_.Kinds, .int .i64 o_.Init, .slice a1 o_.Rows.length c1], .slice a2 l_.length c2, .slice a3 order.length c3]) (by kernel_rfl) ?_
  intro ρ a hS hO hM
  replace h1 := h1.m0 hM
  replace h2 := h2.m0 hM
  replace h3 := h3.m0 hM
  clear hM
  refine regM T hS (sp := []) (ks := [1, 2, 3]) (bs := [4]) (sy' := ⟨[(1, V (.slice a2 l_.length c2)), (2, V (.slice a3 order.length c3)), (3, Pt 4 0)], [(4, (24, [I o_.States, I o_.Kinds, I o_.Init, V (.slice a1 o_.Rows.length c1)]))]⟩) (by kernel_rfl) ?_
  intro ρ a w131 χ132 hS hE hr
  replace hO := hO.mv hE rfl rfl
  replace h1 := h1.mv hE rfl
  replace h2 := h2.mv hE rfl
  replace h3 := h3.mv hE rfl
  clear hE hr
  refine wseq ?_
  refine regO ?_
  refine opsP T hS 1 (sp := []) (ks := [1, 2, 3, 11]) (bs := [4]) (sy' := ⟨[(1, V (.slice a2 l_.length c2)), (2, V (.slice a3 order.length c3)), (3, Pt 4 0), (11, V (.agg #[.int .i64 o_.States, .int .i64 o_.Kinds, .int .i64 o_.Init, .slice a1 o_.Rows.length c1]))], [(4, (24, [I o_.States, I o_.Kinds, I o_.Init, V (.slice a1 o_.Rows.length c1)]))]⟩) (by kernel_rfl) ?_
  intro a hS
  refine op1 (call hS (by kernel_rfl) (by kernel_rfl) hb12 (by kernel_rfl) (fun _ _ => rfl) (k12 _ _ o_ a1 c1 h1) ?_)
  intro v101 a w102 χ103 hE hp hS
  replace hO := hO.mv hE rfl rfl
  replace h1 := h1.mv hE rfl
  replace h2 := h2.mv hE rfl
  replace h3 := h3.mv hE rfl
  clear hE
  obtain ⟨r104, hr⟩ : ∃ r, law23_Few o_ = r := ⟨_, rfl⟩
  replace hm := hm r104 hr
  rw [hr] at hp
  clear hr
  subst hp
  refine endP T hS (sp := [14, 19]) (ks := [1, 2, 3, 23]) (bs := [4]) (sy' := ⟨[(1, V (.slice a2 l_.length c2)), (2, V (.slice a3 order.length c3)), (3, Pt 4 0), (23, B (((!r104) || (decide (((l_.length : Nat) : Int) > 60))) || (decide (((order.length : Nat) : Int) > 60))))], [(4, (24, [I o_.States, I o_.Kinds, I o_.Init, V (.slice a1 o_.Rows.length c1)]))]⟩) (by kernel_rfl) ?_
  intro a hS
  refine wcond hS (b := (((!r104) || (decide (((l_.length : Nat) : Int) > 60))) || (decide (((order.length : Nat) : Int) > 60)))) (by kernel_rfl) (fun hb => ?_) (fun hb => ?_)
  · replace hm := hm.1 hb
    refine regO ?_
    refine op1 (call hS (by kernel_rfl) (by kernel_rfl) hb13 (by kernel_rfl) (fun _ _ => rfl) (k13 _ _) ?_)
    intro v105 a w106 χ107 hE hp hS
    replace hO := hO.mv hE rfl rfl
    replace h1 := h1.mv hE rfl
    replace h2 := h2.mv hE rfl
    replace h3 := h3.mv hE rfl
    clear hE
    obtain ⟨r108, hr⟩ : ∃ r, law28_awake = r := ⟨_, rfl⟩
    replace hm := hm r108 hr
    rw [hr] at hp
    clear hr
    subst hp
    refine endP T hS (sp := []) (ks := [6]) (bs := []) (sy' := ⟨[(6, B r108)], []⟩) (by kernel_rfl) ?_
    intro a hS
    refine wret ?_
    exact fin T hS hO (fun c => c) rfl (r := [.bool r108]) (by kernel_rfl) (fun χ' hM hC => ⟨r108, hm, rfl⟩)
  · replace hm := hm.2 hb
    refine wskip ?_
    refine regO ?_
    refine opsP T hS 3 (sp := []) (ks := [1, 2, 3, 26, 27, 28]) (bs := [4]) (sy' := ⟨[(1, V (.slice a2 l_.length c2)), (2, V (.slice a3 order.length c3)), (3, Pt 4 0), (26, V (.agg #[.int .i64 o_.States, .int .i64 o_.Kinds, .int .i64 o_.Init, .slice a1 o_.Rows.length c1])), (27, V (.slice a2 l_.length c2)), (28, V (.slice a3 order.length c3))], [(4, (24, [I o_.States, I o_.Kinds, I o_.Init, V (.slice a1 o_.Rows.length c1)]))]⟩) (by kernel_rfl) ?_
    intro a hS
    obtain ⟨hq, hm⟩ := hm
    refine op1 (call hS (by kernel_rfl) (by kernel_rfl) hb22 (by kernel_rfl) (fun _ _ => rfl) (k22 _ _ o_ l_ order a1 c1 a2 c2 a3 c3 hq h1 h2 h3) ?_)
    intro v109 a w110 χ111 hE hp hS
    clear hq
    replace hO := hO.mv hE rfl rfl
    replace h1 := h1.mv hE rfl
    replace h2 := h2.mv hE rfl
    replace h3 := h3.mv hE rfl
    clear hE
    obtain ⟨a113, c114, hp, h115⟩ := hp
    obtain ⟨r112, hr⟩ : ∃ r, run_Fill o_ l_ order = r := ⟨_, rfl⟩
    replace hm := hm r112 hr
    rw [hr] at hp h115
    clear hr
    subst hp
    replace hm := hm (h115.sm (by kernel_rfl))
    refine endP T hS (sp := []) (ks := [1, 2, 3, 7, 8]) (bs := [4]) (sy' := ⟨[(1, V (.slice a2 l_.length c2)), (2, V (.slice a3 order.length c3)), (3, Pt 4 0), (7, V (.slice a113 r112.1.length c114)), (8, I r112.2)], [(4, (24, [I o_.States, I o_.Kinds, I o_.Init, V (.slice a1 o_.Rows.length c1)]))]⟩) (by kernel_rfl) ?_
    intro a hS
    refine regO ?_
    refine opsP T hS 3 (sp := []) (ks := [7, 8, 33, 34, 35]) (bs := []) (sy' := ⟨[(7, V (.slice a113 r112.1.length c114)), (8, I r112.2), (33, V (.agg #[.int .i64 o_.States, .int .i64 o_.Kinds, .int .i64 o_.Init, .slice a1 o_.Rows.length c1])), (34, V (.slice a2 l_.length c2)), (35, V (.slice a3 order.length c3))], []⟩) (by kernel_rfl) ?_
    intro a hS
    obtain ⟨hq, hm⟩ := hm
    refine op1 (call hS (by kernel_rfl) (by kernel_rfl) hb23 (by kernel_rfl) (fun _ _ => rfl) (k23 _ _ o_ l_ order a1 c1 a2 c2 a3 c3 hq h1 h2 h3) ?_)
    intro v116 a w117 χ118 hE hp hS
    clear hq
    replace hO := hO.mv hE rfl rfl
    replace h1 := h1.mv hE rfl
    replace h2 := h2.mv hE rfl
    replace h3 := h3.mv hE rfl
    replace h115 := h115.mv hE rfl
    clear hE
    obtain ⟨a120, c121, hp, h122⟩ := hp
    obtain ⟨r119, hr⟩ : ∃ r, ref28_Fill o_ l_ order = r := ⟨_, rfl⟩
    replace hm := hm r119 hr
    rw [hr] at hp h122
    clear hr
    subst hp
    replace hm := hm (h122.sm (by kernel_rfl))
    refine endP T hS (sp := []) (ks := [7, 8, 9, 10]) (bs := []) (sy' := ⟨[(7, V (.slice a113 r112.1.length c114)), (8, I r112.2), (9, V (.slice a120 r119.1.length c121)), (10, I r119.2)], []⟩) (by kernel_rfl) ?_
    intro a hS
    refine regO ?_
    refine opsP T hS 2 (sp := []) (ks := [8, 10, 39, 40]) (bs := []) (sy' := ⟨[(8, I r112.2), (10, I r119.2), (39, V (.slice a113 r112.1.length c114)), (40, V (.slice a120 r119.1.length c121))], []⟩) (by kernel_rfl) ?_
    intro a hS
    refine op1 (call hS (by kernel_rfl) (by kernel_rfl) hb24 (by kernel_rfl) (fun _ _ => rfl) (k24 _ _ r112.1 r119.1 a113 c114 a120 c121 h115 h122) ?_)
    intro v123 a w124 χ125 hE hp hS
    replace hO := hO.mv hE rfl rfl
    replace h115 := h115.mv hE rfl
    replace h122 := h122.mv hE rfl
    clear hE
    obtain ⟨r126, hr⟩ : ∃ r, ref28_Same r112.1 r119.1 = r := ⟨_, rfl⟩
    replace hm := hm r126 hr
    rw [hr] at hp
    clear hr
    subst hp
    refine opsP T hS 6 (sp := [42]) (ks := [47]) (bs := []) (sy' := ⟨[(47, B (r126 && (r112.2 == r119.2)))], []⟩) (by kernel_rfl) ?_
    intro a hS
    rcases Bool.eq_false_or_eq_true (r126 && (r112.2 == r119.2)) with hb | hb
    · replace hS := hS.lit (t := 47) (by kernel_rfl) hb
      replace hm := hm.1 hb
      refine op1 (call hS (by kernel_rfl) (by kernel_rfl) hb13 (by kernel_rfl) (fun _ _ => rfl) (k13 _ _) ?_)
      intro v127 a w128 χ129 hE hp hS
      replace hO := hO.mv hE rfl rfl
      clear hE
      obtain ⟨r130, hr⟩ : ∃ r, law28_awake = r := ⟨_, rfl⟩
      replace hm := hm r130 hr
      rw [hr] at hp
      clear hr
      subst hp
      refine endP T hS (sp := []) (ks := [6]) (bs := []) (sy' := ⟨[(6, B r130)], []⟩) (by kernel_rfl) ?_
      intro a hS
      refine wret ?_
      exact fin T hS hO (fun c => c) rfl (r := [.bool r130]) (by kernel_rfl) (fun χ' hM hC => ⟨r130, hm, rfl⟩)
    · replace hS := hS.lit (t := 47) (by kernel_rfl) hb
      replace hm := hm.2 hb
      refine endP T hS (sp := []) (ks := [6]) (bs := []) (sy' := ⟨[(6, B false)], []⟩) (by kernel_rfl) ?_
      intro a hS
      refine wret ?_
      exact fin T hS hO (fun c => c) rfl (r := [.bool false]) (by kernel_rfl) (fun χ' hM hC => ⟨false, hm, rfl⟩)
/-- replevin/replevinlaw28.RunSteps -/
theorem W5 (k12 : S12) (k13 : S13) (k14 : S14) (k16 : S16) (k17 : S17) (k20 : S20) (w0 : World) (χ0 : Nat → Nat) (o_ : Api_Object) (l_ : List Api_Oper) (x_ : Law28_Case) (a1 : Option Addr) (c1 : Nat) (a2 : Option Addr) (c2 : Nat) (a3 : Option Addr) (c3 : Nat) (Q : Bool → Prop) (hm : VC5 o_ l_ x_ Q) (h1 : RS tApi_Row w0 χ0 a1 o_.Rows c1) (h2 : RS tApi_Oper w0 χ0 a2 l_ c2) (h3 : RS tApi_Pick w0 χ0 a3 x_.Picks c3) :
    Ret Try.prog 5 #[.agg #[.int .i64 o_.States, .int .i64 o_.Kinds, .int .i64 o_.Init, .slice a1 o_.Rows.length c1], .slice a2 l_.length c2, .agg #[.slice a3 x_.Picks.length c3, .int .i64 x_.State, .int .i64 x_.Kind, .int .i64 x_.Result]] xnone w0 χ0 (fun w χ' v => ∃ r, Q r ∧ v = .bool r) := by
  unfold VC5 at hm
  replace hm := hm (h1.sm (by kernel_rfl))
  replace hm := hm (h2.sm (by kernel_rfl))
  replace hm := hm (h3.sm (by kernel_rfl))
  refine enter Try.func5 rfl (vals := [.agg #[.int .i64 o_.States, .int .i64 o_.Kinds, .int .i64 o_.Init, .slice a1 o_.Rows.length c1], .slice a2 l_.length c2, .agg #[.slice a3 x_.Picks.length c3, .int .i64 x_.State, .int .i64 x_.Kind, .int .i64 x_.Result]]) (by kernel_rfl) ?_
  intro ρ a hS hO hM
  replace h1 := h1.m0 hM
  replace h2 := h2.m0 hM
  replace h3 := h3.m0 hM
  clear hM
  refine regM T hS (sp := []) (ks := [1, 3, 5]) (bs := [4, 6]) (sy' := ⟨[(1, V (.slice a2 l_.length c2)), (3, Pt 4 0), (5, Pt 6 0)], [(4, (24, [I o_.States, I o_.Kinds, I o_.Init, V (.slice a1 o_.Rows.length c1)])), (6, (28, [V (.slice a3 x_.Picks.length c3), I x_.State, I x_.Kind, I x_.Result]))]⟩) (by kernel_rfl) ?_
  intro ρ a w201 χ202 hS hE hr
  replace hO := hO.mv hE rfl rfl
  replace h1 := h1.mv hE rfl
  replace h2 := h2.mv hE rfl
  replace h3 := h3.mv hE rfl
  clear hE hr
  refine wseq ?_
  refine regO ?_
  refine opsP T hS 1 (sp := []) (ks := [1, 3, 5, 21]) (bs := [4, 6]) (sy' := ⟨[(1, V (.slice a2 l_.length c2)), (3, Pt 4 0), (5, Pt 6 0), (21, V (.agg #[.int .i64 o_.States, .int .i64 o_.Kinds, .int .i64 o_.Init, .slice a1 o_.Rows.length c1]))], [(4, (24, [I o_.States, I o_.Kinds, I o_.Init, V (.slice a1 o_.Rows.length c1)])), (6, (28, [V (.slice a3 x_.Picks.length c3), I x_.State, I x_.Kind, I x_.Result]))]⟩) (by kernel_rfl) ?_
  intro a hS
  refine op1 (call hS (by kernel_rfl) (by kernel_rfl) hb12 (by kernel_rfl) (fun _ _ => rfl) (k12 _ _ o_ a1 c1 h1) ?_)
  intro v101 a w102 χ103 hE hp hS
  replace hO := hO.mv hE rfl rfl
  replace h1 := h1.mv hE rfl
  replace h2 := h2.mv hE rfl
  replace h3 := h3.mv hE rfl
  clear hE
  obtain ⟨r104, hr⟩ : ∃ r, law23_Few o_ = r := ⟨_, rfl⟩
  replace hm := hm r104 hr
  rw [hr] at hp
  clear hr
  subst hp
  refine endP T hS (sp := [24, 29]) (ks := [1, 3, 5, 34]) (bs := [4, 6]) (sy' := ⟨[(1, V (.slice a2 l_.length c2)), (3, Pt 4 0), (5, Pt 6 0), (34, B (((!r104) || (decide (((l_.length : Nat) : Int) > 60))) || (decide (((x_.Picks.length : Nat) : Int) > 60))))], [(4, (24, [I o_.States, I o_.Kinds, I o_.Init, V (.slice a1 o_.Rows.length c1)])), (6, (28, [V (.slice a3 x_.Picks.length c3), I x_.State, I x_.Kind, I x_.Result]))]⟩) (by kernel_rfl) ?_
  intro a hS
  refine wcond hS (b := (((!r104) || (decide (((l_.length : Nat) : Int) > 60))) || (decide (((x_.Picks.length : Nat) : Int) > 60)))) (by kernel_rfl) (fun hb => ?_) (fun hb => ?_)
  · replace hm := hm.1 hb
    refine regO ?_
    refine op1 (call hS (by kernel_rfl) (by kernel_rfl) hb13 (by kernel_rfl) (fun _ _ => rfl) (k13 _ _) ?_)
    intro v105 a w106 χ107 hE hp hS
    replace hO := hO.mv hE rfl rfl
    replace h1 := h1.mv hE rfl
    replace h2 := h2.mv hE rfl
    replace h3 := h3.mv hE rfl
    clear hE
    obtain ⟨r108, hr⟩ : ∃ r, law28_awake = r := ⟨_, rfl⟩
    replace hm := hm r108 hr
    rw [hr] at hp
    clear hr
    subst hp
    refine endP T hS (sp := []) (ks := [6]) (bs := []) (sy' := ⟨[(6, B r108)], []⟩) (by kernel_rfl) ?_
    intro a hS
    refine wret ?_
    exact fin T hS hO (fun c => c) rfl (r := [.bool r108]) (by kernel_rfl) (fun χ' hM hC => ⟨r108, hm, rfl⟩)
  · replace hm := hm.2 hb
    refine wskip ?_
    refine regO ?_
    refine opsP T hS 4 (sp := []) (ks := [1, 3, 5, 37, 38, 40]) (bs := [4, 6]) (sy' := ⟨[(1, V (.slice a2 l_.length c2)), (3, Pt 4 0), (5, Pt 6 0), (37, V (.agg #[.int .i64 o_.States, .int .i64 o_.Kinds, .int .i64 o_.Init, .slice a1 o_.Rows.length c1])), (38, V (.slice a2 l_.length c2)), (40, V (.slice a3 x_.Picks.length c3))], [(4, (24, [I o_.States, I o_.Kinds, I o_.Init, V (.slice a1 o_.Rows.length c1)])), (6, (28, [V (.slice a3 x_.Picks.length c3), I x_.State, I x_.Kind, I x_.Result]))]⟩) (by kernel_rfl) ?_
    intro a hS
    obtain ⟨hq, hm⟩ := hm
    refine op1 (call hS (by kernel_rfl) (by kernel_rfl) hb14 (by kernel_rfl) (fun _ _ => rfl) (k14 _ _ o_ l_ x_.Picks a1 c1 a2 c2 a3 c3 hq h1 h2 h3) ?_)
    intro v109 a w110 χ111 hE hp hS
    clear hq
    replace hO := hO.mv hE rfl rfl
    replace h1 := h1.mv hE rfl
    replace h2 := h2.mv hE rfl
    replace h3 := h3.mv hE rfl
    clear hE
    obtain ⟨r112, hr⟩ : ∃ r, run_Picks o_ l_ x_.Picks = r := ⟨_, rfl⟩
    replace hm := hm r112 hr
    rw [hr] at hp
    clear hr
    subst hp
    refine endP T hS (sp := []) (ks := [1, 3, 5, 7, 8, 9]) (bs := [4, 6]) (sy' := ⟨[(1, V (.slice a2 l_.length c2)), (3, Pt 4 0), (5, Pt 6 0), (7, I r112.1), (8, I r112.2.1), (9, I r112.2.2)], [(4, (24, [I o_.States, I o_.Kinds, I o_.Init, V (.slice a1 o_.Rows.length c1)])), (6, (28, [V (.slice a3 x_.Picks.length c3), I x_.State, I x_.Kind, I x_.Result]))]⟩) (by kernel_rfl) ?_
    intro a hS
    refine regO ?_
    refine opsP T hS 4 (sp := []) (ks := [1, 3, 5, 7, 8, 9, 45, 46, 48]) (bs := [4, 6]) (sy' := ⟨[(1, V (.slice a2 l_.length c2)), (3, Pt 4 0), (5, Pt 6 0), (7, I r112.1), (8, I r112.2.1), (9, I r112.2.2), (45, V (.agg #[.int .i64 o_.States, .int .i64 o_.Kinds, .int .i64 o_.Init, .slice a1 o_.Rows.length c1])), (46, V (.slice a2 l_.length c2)), (48, V (.slice a3 x_.Picks.length c3))], [(4, (24, [I o_.States, I o_.Kinds, I o_.Init, V (.slice a1 o_.Rows.length c1)])), (6, (28, [V (.slice a3 x_.Picks.length c3), I x_.State, I x_.Kind, I x_.Result]))]⟩) (by kernel_rfl) ?_
    intro a hS
    obtain ⟨hq, hm⟩ := hm
    refine op1 (call hS (by kernel_rfl) (by kernel_rfl) hb20 (by kernel_rfl) (fun _ _ => rfl) (k20 _ _ o_ l_ x_.Picks a1 c1 a2 c2 a3 c3 hq h1 h2 h3) ?_)
    intro v113 a w114 χ115 hE hp hS
    clear hq
    replace hO := hO.mv hE rfl rfl
    replace h1 := h1.mv hE rfl
    replace h2 := h2.mv hE rfl
    replace h3 := h3.mv hE rfl
    clear hE
    obtain ⟨a117, c118, hp, h119⟩ := hp
    obtain ⟨r116, hr⟩ : ∃ r, run_States o_ l_ x_.Picks = r := ⟨_, rfl⟩
    replace hm := hm r116 hr
    rw [hr] at hp h119
    clear hr
    subst hp
    replace hm := hm (h119.sm (by kernel_rfl))
    refine endP T hS (sp := []) (ks := [1, 3, 5, 7, 8, 9, 10]) (bs := [4, 6]) (sy' := ⟨[(1, V (.slice a2 l_.length c2)), (3, Pt 4 0), (5, Pt 6 0), (7, I r112.1), (8, I r112.2.1), (9, I r112.2.2), (10, V (.slice a117 r116.length c118))], [(4, (24, [I o_.States, I o_.Kinds, I o_.Init, V (.slice a1 o_.Rows.length c1)])), (6, (28, [V (.slice a3 x_.Picks.length c3), I x_.State, I x_.Kind, I x_.Result]))]⟩) (by kernel_rfl) ?_
    intro a hS
    refine wseq ?_
    refine regP T hS (sp := []) (ks := [1, 3, 5, 7, 8, 10, 51]) (bs := [4, 6]) (sy' := ⟨[(1, V (.slice a2 l_.length c2)), (3, Pt 4 0), (5, Pt 6 0), (7, I r112.1), (8, I r112.2.1), (10, V (.slice a117 r116.length c118)), (51, B (r112.2.2 != 0))], [(4, (24, [I o_.States, I o_.Kinds, I o_.Init, V (.slice a1 o_.Rows.length c1)])), (6, (28, [V (.slice a3 x_.Picks.length c3), I x_.State, I x_.Kind, I x_.Result]))]⟩) (by kernel_rfl) ?_
    intro a hS
    refine wcond hS (b := (r112.2.2 != 0)) (by kernel_rfl) (fun hb => ?_) (fun hb => ?_)
    · replace hm := hm.1 hb
      refine regO ?_
      refine opsP T hS 15 (sp := [55, 59]) (ks := [66]) (bs := []) (sy' := ⟨[(66, B (((((r116.length : Nat) : Int) == 0) && (r112.1 == 0)) && (decide (r112.2.1 < ((x_.Picks.length : Nat) : Int)))))], []⟩) (by kernel_rfl) ?_
      intro a hS
      rcases Bool.eq_false_or_eq_true (((((r116.length : Nat) : Int) == 0) && (r112.1 == 0)) && (decide (r112.2.1 < ((x_.Picks.length : Nat) : Int)))) with hb | hb
      · replace hS := hS.lit (t := 66) (by kernel_rfl) hb
        replace hm := hm.1 hb
        refine op1 (call hS (by kernel_rfl) (by kernel_rfl) hb13 (by kernel_rfl) (fun _ _ => rfl) (k13 _ _) ?_)
        intro v120 a w121 χ122 hE hp hS
        replace hO := hO.mv hE rfl rfl
        clear hE
        obtain ⟨r123, hr⟩ : ∃ r, law28_awake = r := ⟨_, rfl⟩
        replace hm := hm r123 hr
        rw [hr] at hp
        clear hr
        subst hp
        refine endP T hS (sp := []) (ks := [6]) (bs := []) (sy' := ⟨[(6, B r123)], []⟩) (by kernel_rfl) ?_
        intro a hS
        refine wret ?_
        exact fin T hS hO (fun c => c) rfl (r := [.bool r123]) (by kernel_rfl) (fun χ' hM hC => ⟨r123, hm, rfl⟩)
      · replace hS := hS.lit (t := 66) (by kernel_rfl) hb
        replace hm := hm.2 hb
        refine endP T hS (sp := []) (ks := [6]) (bs := []) (sy' := ⟨[(6, B false)], []⟩) (by kernel_rfl) ?_
        intro a hS
        refine wret ?_
        exact fin T hS hO (fun c => c) rfl (r := [.bool false]) (by kernel_rfl) (fun χ' hM hC => ⟨false, hm, rfl⟩)
    · replace hm := hm.2 hb
      refine wskip ?_
      refine wseq ?_
      refine wcut (fun a w => ∃ (ρ : Nat → Nat) (χ : Nat → Nat) (x_126 : Bool), VC5_J1 o_ l_ x_ Q r112 r116 x_126 ∧ St Try.f5.ntmps ⟨[(1, V (.slice a2 l_.length c2)), (3, Pt 4 0), (5, Pt 6 0), (7, I r112.1), (10, V (.slice a117 r116.length c118)), (93, B x_126)], [(4, (24, [I o_.States, I o_.Kinds, I o_.Init, V (.slice a1 o_.Rows.length c1)])), (6, (28, [V (.slice a3 x_.Picks.length c3), I x_.State, I x_.Kind, I x_.Result]))]⟩ ρ a w χ ∧ Old w0 χ0 w χ ∧ RS tApi_Oper w χ a2 l_ c2 ∧ RS tI w χ a117 r116 c118 ∧ RS tApi_Row w χ a1 o_.Rows c1 ∧ RS tApi_Pick w χ a3 x_.Picks c3) ?_ ?_
      · refine drawn [4, 6] mixed hS ?_
        intro w192 hS hE hD hH
        replace hO := hO.mv hE rfl rfl
        replace h1 := h1.mv hE rfl
        replace h2 := h2.mv hE rfl
        replace h3 := h3.mv hE rfl
        replace h119 := h119.mv hE rfl
        clear hE
        refine take T [0, 2, 1, 3, 4, 5, 6, 7] [4, 6] [1, 3, 5, 7, 10, 76] hS (by kernel_rfl) (by kernel_rfl) (by kernel_rfl) hH (listed' := #[true, true, true, true, true, true, true, true, false, false, false, false, false, false, false, false, false, false, false, false, false, false, false, false, false]) (fuel := 17) (sy' := ⟨[(1, V (.slice a2 l_.length c2)), (3, Pt 4 0), (5, Pt 6 0), (7, I r112.1), (10, V (.slice a117 r116.length c118)), (76, B (((r116.length : Nat) : Int) != (IntKind.i64.wrap (((x_.Picks.length : Nat) : Int) + 1))))], [(4, (24, [I o_.States, I o_.Kinds, I o_.Init, V (.slice a1 o_.Rows.length c1)])), (6, (28, [V (.slice a3 x_.Picks.length c3), I x_.State, I x_.Kind, I x_.Result]))]⟩) (by kernel_rfl) (by rfl) ?_
        intro a hS
        rcases Bool.eq_false_or_eq_true (((r116.length : Nat) : Int) != (IntKind.i64.wrap (((x_.Picks.length : Nat) : Int) + 1))) with hb | hb
        · replace hS := hS.lit (t := 76) (by kernel_rfl) hb
          replace hm := hm.1 hb
          refine take T [8, 11, 9, 12, 10, 13, 14, 15, 16, 17, 22, 18, 19, 20, 21, 23, 24] [4, 6] [1, 3, 5, 7, 10, 93] hS (by kernel_rfl) (by kernel_rfl) (by kernel_rfl) hH (listed' := #[true, true, true, true, true, true, true, true, true, true, true, true, true, true, true, true, true, true, true, true, true, true, true, true, true]) (fuel := 0) (sy' := ⟨[(1, V (.slice a2 l_.length c2)), (3, Pt 4 0), (5, Pt 6 0), (7, I r112.1), (10, V (.slice a117 r116.length c118)), (93, B true)], [(4, (24, [I o_.States, I o_.Kinds, I o_.Init, V (.slice a1 o_.Rows.length c1)])), (6, (28, [V (.slice a3 x_.Picks.length c3), I x_.State, I x_.Kind, I x_.Result]))]⟩) (by kernel_rfl) (by rfl) ?_
          intro a hS
          refine drawnDone (by kernel_rfl) ?_
          clear hD hH
          replace hS := hS.sel [1, 3, 5, 7, 10, 93] [4, 6] (sy' := ⟨[(1, V (.slice a2 l_.length c2)), (3, Pt 4 0), (5, Pt 6 0), (7, I r112.1), (10, V (.slice a117 r116.length c118)), (93, B true)], [(4, (24, [I o_.States, I o_.Kinds, I o_.Init, V (.slice a1 o_.Rows.length c1)])), (6, (28, [V (.slice a3 x_.Picks.length c3), I x_.State, I x_.Kind, I x_.Result]))]⟩) (by kernel_rfl)
          exact ⟨ρ, _, true, hm, hS.sel [1, 3, 5, 7, 10, 93] [4, 6] (by kernel_rfl), hO, h2, h119, h1, h3⟩
        · replace hS := hS.lit (t := 76) (by kernel_rfl) hb
          replace hm := hm.2 hb
          refine take T [8, 11, 12] [4, 6] [1, 3, 5, 7, 10, 76, 77, 81] hS (by kernel_rfl) (by kernel_rfl) (by kernel_rfl) hH (listed' := #[true, true, true, true, true, true, true, true, true, false, false, true, true, false, false, false, false, false, false, false, false, false, false, false, false]) (fuel := 14) (sy' := ⟨[(1, V (.slice a2 l_.length c2)), (3, Pt 4 0), (5, Pt 6 0), (7, I r112.1), (10, V (.slice a117 r116.length c118)), (76, B false), (77, V (.slice a117 r116.length c118)), (81, I o_.Init)], [(4, (24, [I o_.States, I o_.Kinds, I o_.Init, V (.slice a1 o_.Rows.length c1)])), (6, (28, [V (.slice a3 x_.Picks.length c3), I x_.State, I x_.Kind, I x_.Result]))]⟩) (by kernel_rfl) (by rfl) ?_
          intro a hS
          obtain ⟨hq, hm⟩ := hm
          refine dindex (e := 3) (k := .i64) T 9 hS (by kernel_rfl) (by kernel_rfl) (by kernel_rfl) (by rfl) (by kernel_rfl) hH (by kernel_rfl) (by kernel_rfl) h119 (by kernel_rfl) (by kernel_rfl) hq.1 hq.2 ?_
          intro A193 a h194 hS
          clear hq
          have h194b := h194.here
          refine dload1 T 10 hS (by kernel_rfl) (by kernel_rfl) (by kernel_rfl) (by rfl) (by kernel_rfl) hH (by kernel_rfl) h194 h194b rfl (by kernel_rfl) ?_
          intro v195 a hv hS
          cases hv
          refine take T [13, 14, 15] [4, 6] [1, 3, 5, 7, 10, 84] hS (by kernel_rfl) (by kernel_rfl) (by kernel_rfl) hH (listed' := #[true, true, true, true, true, true, true, true, true, true, true, true, true, true, true, true, false, false, false, false, false, false, false, false, false]) (fuel := 9) (sy' := ⟨[(1, V (.slice a2 l_.length c2)), (3, Pt 4 0), (5, Pt 6 0), (7, I r112.1), (10, V (.slice a117 r116.length c118)), (84, B ((gi r116 0) != o_.Init))], [(4, (24, [I o_.States, I o_.Kinds, I o_.Init, V (.slice a1 o_.Rows.length c1)])), (6, (28, [V (.slice a3 x_.Picks.length c3), I x_.State, I x_.Kind, I x_.Result]))]⟩) (by kernel_rfl) (by rfl) ?_
          intro a hS
          rcases Bool.eq_false_or_eq_true ((gi r116 0) != o_.Init) with hb | hb
          · replace hS := hS.lit (t := 84) (by kernel_rfl) hb
            replace hm := hm.1 hb
            refine take T [16, 17, 22, 18, 19, 20, 21, 23, 24] [4, 6] [1, 3, 5, 7, 10, 93] hS (by kernel_rfl) (by kernel_rfl) (by kernel_rfl) hH (listed' := #[true, true, true, true, true, true, true, true, true, true, true, true, true, true, true, true, true, true, true, true, true, true, true, true, true]) (fuel := 0) (sy' := ⟨[(1, V (.slice a2 l_.length c2)), (3, Pt 4 0), (5, Pt 6 0), (7, I r112.1), (10, V (.slice a117 r116.length c118)), (93, B true)], [(4, (24, [I o_.States, I o_.Kinds, I o_.Init, V (.slice a1 o_.Rows.length c1)])), (6, (28, [V (.slice a3 x_.Picks.length c3), I x_.State, I x_.Kind, I x_.Result]))]⟩) (by kernel_rfl) (by rfl) ?_
            intro a hS
            refine drawnDone (by kernel_rfl) ?_
            clear hD hH
            replace hS := hS.sel [1, 3, 5, 7, 10, 93] [4, 6] (sy' := ⟨[(1, V (.slice a2 l_.length c2)), (3, Pt 4 0), (5, Pt 6 0), (7, I r112.1), (10, V (.slice a117 r116.length c118)), (93, B true)], [(4, (24, [I o_.States, I o_.Kinds, I o_.Init, V (.slice a1 o_.Rows.length c1)])), (6, (28, [V (.slice a3 x_.Picks.length c3), I x_.State, I x_.Kind, I x_.Result]))]⟩) (by kernel_rfl)
            exact ⟨ρ, _, true, hm, hS.sel [1, 3, 5, 7, 10, 93] [4, 6] (by kernel_rfl), hO, h2, h119, h1, h3⟩
          · replace hS := hS.lit (t := 84) (by kernel_rfl) hb
            replace hm := hm.2 hb
            refine take T [16, 17, 22, 18, 19] [4, 6] [1, 3, 5, 7, 10, 84, 85, 88, 91] hS (by kernel_rfl) (by kernel_rfl) (by kernel_rfl) hH (listed' := #[true, true, true, true, true, true, true, true, true, true, true, true, true, true, true, true, true, true, true, true, false, false, true, false, false]) (fuel := 4) (sy' := ⟨[(1, V (.slice a2 l_.length c2)), (3, Pt 4 0), (5, Pt 6 0), (7, I r112.1), (10, V (.slice a117 r116.length c118)), (84, B false), (85, V (.slice a117 r116.length c118)), (88, I (IntKind.i64.wrap (((r116.length : Nat) : Int) - 1))), (91, I r112.1)], [(4, (24, [I o_.States, I o_.Kinds, I o_.Init, V (.slice a1 o_.Rows.length c1)])), (6, (28, [V (.slice a3 x_.Picks.length c3), I x_.State, I x_.Kind, I x_.Result]))]⟩) (by kernel_rfl) (by rfl) ?_
            intro a hS
            obtain ⟨hq, hm⟩ := hm
            refine dindex (e := 3) (k := .i64) T 20 hS (by kernel_rfl) (by kernel_rfl) (by kernel_rfl) (by rfl) (by kernel_rfl) hH (by kernel_rfl) (by kernel_rfl) h119 (by kernel_rfl) (by kernel_rfl) hq.1 hq.2 ?_
            intro A196 a h197 hS
            clear hq
            have h197b := h197.here
            refine dload1 T 21 hS (by kernel_rfl) (by kernel_rfl) (by kernel_rfl) (by rfl) (by kernel_rfl) hH (by kernel_rfl) h197 h197b rfl (by kernel_rfl) ?_
            intro v198 a hv hS
            cases hv
            refine take T [23, 24] [4, 6] [1, 3, 5, 7, 10, 93] hS (by kernel_rfl) (by kernel_rfl) (by kernel_rfl) hH (listed' := #[true, true, true, true, true, true, true, true, true, true, true, true, true, true, true, true, true, true, true, true, true, true, true, true, true]) (fuel := 0) (sy' := ⟨[(1, V (.slice a2 l_.length c2)), (3, Pt 4 0), (5, Pt 6 0), (7, I r112.1), (10, V (.slice a117 r116.length c118)), (93, B ((gi r116 (IntKind.i64.wrap (((r116.length : Nat) : Int) - 1))) != r112.1))], [(4, (24, [I o_.States, I o_.Kinds, I o_.Init, V (.slice a1 o_.Rows.length c1)])), (6, (28, [V (.slice a3 x_.Picks.length c3), I x_.State, I x_.Kind, I x_.Result]))]⟩) (by kernel_rfl) (by rfl) ?_
            intro a hS
            refine drawnDone (by kernel_rfl) ?_
            clear hD hH
            replace hS := hS.sel [1, 3, 5, 7, 10, 93] [4, 6] (sy' := ⟨[(1, V (.slice a2 l_.length c2)), (3, Pt 4 0), (5, Pt 6 0), (7, I r112.1), (10, V (.slice a117 r116.length c118)), (93, B ((gi r116 (IntKind.i64.wrap (((r116.length : Nat) : Int) - 1))) != r112.1))], [(4, (24, [I o_.States, I o_.Kinds, I o_.Init, V (.slice a1 o_.Rows.length c1)])), (6, (28, [V (.slice a3 x_.Picks.length c3), I x_.State, I x_.Kind, I x_.Result]))]⟩) (by kernel_rfl)
            exact ⟨ρ, _, ((gi r116 (IntKind.i64.wrap (((r116.length : Nat) : Int) - 1))) != r112.1), hm, hS.sel [1, 3, 5, 7, 10, 93] [4, 6] (by kernel_rfl), hO, h2, h119, h1, h3⟩
      · rintro a w200 ⟨ρ, χ199, x_126, hm, hS, hO, h124, h125, h127, h128⟩
        unfold VC5_J1 at hm
        refine wcond hS (b := x_126) (by kernel_rfl) (fun hb => ?_) (fun hb => ?_)
        · replace hm := hm.1 hb
          refine regP T hS (sp := []) (ks := [6]) (bs := []) (sy' := ⟨[(6, B false)], []⟩) (by kernel_rfl) ?_
          intro a hS
          refine wret ?_
          exact fin T hS hO (fun c => c) rfl (r := [.bool false]) (by kernel_rfl) (fun χ' hM hC => ⟨false, hm, rfl⟩)
        · replace hm := hm.2 hb
          refine wskip ?_
          refine wcut (fun a w => ∃ (ρ : Nat → Nat) (χ : Nat → Nat), VC5_J2 Q ∧ St Try.f5.ntmps ⟨[], []⟩ ρ a w χ ∧ Old w0 χ0 w χ) ?_ ?_
          · refine regP T hS (sp := []) (ks := [1, 3, 5, 7, 10, 11]) (bs := [4, 6]) (sy' := ⟨[(1, V (.slice a2 l_.length c2)), (3, Pt 4 0), (5, Pt 6 0), (7, I r112.1), (10, V (.slice a117 r116.length c118)), (11, I 0)], [(4, (24, [I o_.States, I o_.Kinds, I o_.Init, V (.slice a1 o_.Rows.length c1)])), (6, (28, [V (.slice a3 x_.Picks.length c3), I x_.State, I x_.Kind, I x_.Result]))]⟩) (by kernel_rfl) ?_
            intro a hS
            refine wblock ?_
            obtain ⟨I1, μ1, hm0, hm⟩ := hm
            refine wloop (σ := Int) (fun s a w => ∃ (ρ : Nat → Nat) (χ : Nat → Nat), I1 s ∧ St Try.f5.ntmps ⟨[(1, V (.slice a2 l_.length c2)), (3, Pt 4 0), (5, Pt 6 0), (7, I r112.1), (10, V (.slice a117 r116.length c118)), (11, I s)], [(4, (24, [I o_.States, I o_.Kinds, I o_.Init, V (.slice a1 o_.Rows.length c1)])), (6, (28, [V (.slice a3 x_.Picks.length c3), I x_.State, I x_.Kind, I x_.Result]))]⟩ ρ a w χ ∧ Old w0 χ0 w χ ∧ RS tApi_Oper w χ a2 l_ c2 ∧ RS tI w χ a117 r116 c118 ∧ RS tApi_Row w χ a1 o_.Rows c1 ∧ RS tApi_Pick w χ a3 x_.Picks c3) (fun s => μ1 s) (0) ?_ ?_
            · exact ⟨ρ, _, hm0, hS.sel [1, 3, 5, 7, 10, 11] [4, 6] (by kernel_rfl), hO, h124, h125, h127, h128⟩
            · rintro i_135 a w189 ⟨ρ, χ188, hI, hS, hO, h133, h134, h136, h137⟩
              replace hm := hm i_135 hI
              clear hI hm0
              refine wseq ?_
              refine regP T hS (sp := []) (ks := [1, 3, 5, 7, 10, 11, 98]) (bs := [4, 6]) (sy' := ⟨[(1, V (.slice a2 l_.length c2)), (3, Pt 4 0), (5, Pt 6 0), (7, I r112.1), (10, V (.slice a117 r116.length c118)), (11, I i_135), (98, B (decide (i_135 < ((x_.Picks.length : Nat) : Int))))], [(4, (24, [I o_.States, I o_.Kinds, I o_.Init, V (.slice a1 o_.Rows.length c1)])), (6, (28, [V (.slice a3 x_.Picks.length c3), I x_.State, I x_.Kind, I x_.Result]))]⟩) (by kernel_rfl) ?_
              intro a hS
              refine wcond hS (b := decide (i_135 < ((x_.Picks.length : Nat) : Int))) (by kernel_rfl) (fun hb => ?_) (fun hb => ?_)
              · replace hm := hm.1 hb
                refine wskip ?_
                refine wseq ?_
                refine wblock ?_
                refine regO ?_
                refine opsP T hS 3 (sp := []) (ks := [1, 3, 5, 7, 10, 11, 102, 103]) (bs := [4, 6]) (sy' := ⟨[(1, V (.slice a2 l_.length c2)), (3, Pt 4 0), (5, Pt 6 0), (7, I r112.1), (10, V (.slice a117 r116.length c118)), (11, I i_135), (102, V (.slice a3 x_.Picks.length c3)), (103, I i_135)], [(4, (24, [I o_.States, I o_.Kinds, I o_.Init, V (.slice a1 o_.Rows.length c1)])), (6, (28, [V (.slice a3 x_.Picks.length c3), I x_.State, I x_.Kind, I x_.Result]))]⟩) (by kernel_rfl) ?_
                intro a hS
                obtain ⟨hq, hm⟩ := hm
                refine op1 (index (e := 52) (k := .i64) T hS (by kernel_rfl) (by kernel_rfl) (by kernel_rfl) (by kernel_rfl) h137 (by kernel_rfl) (by kernel_rfl) hq.1 hq.2 ?_)
                intro A138 a h139 hS
                clear hq
                refine op1 (loadA T hS (by kernel_rfl) (by kernel_rfl) (by kernel_rfl) h139 (by kernel_rfl) (by kernel_rfl) ?_)
                intro v140 a hv hS
                subst hv
                refine endM T hS (sp := []) (ks := [1, 3, 5, 7, 10, 11, 12]) (bs := [4, 6, 13]) (sy' := ⟨[(1, V (.slice a2 l_.length c2)), (3, Pt 4 0), (5, Pt 6 0), (7, I r112.1), (10, V (.slice a117 r116.length c118)), (11, I i_135), (12, Pt 13 0)], [(4, (24, [I o_.States, I o_.Kinds, I o_.Init, V (.slice a1 o_.Rows.length c1)])), (6, (28, [V (.slice a3 x_.Picks.length c3), I x_.State, I x_.Kind, I x_.Result])), (13, (52, [I ((gi x_.Picks i_135).Oper), I ((gi x_.Picks i_135).Result)]))]⟩) (by kernel_rfl) ?_
                intro ρ a w186 χ187 hS hE hr
                replace hO := hO.mv hE rfl rfl
                replace h133 := h133.mv hE rfl
                replace h134 := h134.mv hE rfl
                replace h136 := h136.mv hE rfl
                replace h137 := h137.mv hE rfl
                clear hE hr
                refine wseq ?_
                refine regP T hS (sp := [109]) (ks := [1, 3, 5, 7, 10, 11, 12, 115]) (bs := [4, 6, 13]) (sy' := ⟨[(1, V (.slice a2 l_.length c2)), (3, Pt 4 0), (5, Pt 6 0), (7, I r112.1), (10, V (.slice a117 r116.length c118)), (11, I i_135), (12, Pt 13 0), (115, B ((decide (((gi x_.Picks i_135).Oper) < 0)) || (decide (((gi x_.Picks i_135).Oper) ≥ ((l_.length : Nat) : Int)))))], [(4, (24, [I o_.States, I o_.Kinds, I o_.Init, V (.slice a1 o_.Rows.length c1)])), (6, (28, [V (.slice a3 x_.Picks.length c3), I x_.State, I x_.Kind, I x_.Result])), (13, (52, [I ((gi x_.Picks i_135).Oper), I ((gi x_.Picks i_135).Result)]))]⟩) (by kernel_rfl) ?_
                intro a hS
                refine wcond hS (b := ((decide (((gi x_.Picks i_135).Oper) < 0)) || (decide (((gi x_.Picks i_135).Oper) ≥ ((l_.length : Nat) : Int))))) (by kernel_rfl) (fun hb => ?_) (fun hb => ?_)
                · replace hm := hm.1 hb
                  refine regP T hS (sp := []) (ks := [6]) (bs := []) (sy' := ⟨[(6, B false)], []⟩) (by kernel_rfl) ?_
                  intro a hS
                  refine wret ?_
                  exact fin T hS hO (fun c => c) rfl (r := [.bool false]) (by kernel_rfl) (fun χ' hM hC => ⟨false, hm, rfl⟩)
                · replace hm := hm.2 hb
                  refine wskip ?_
                  refine drawnS [4, 6, 13] mixed hS ?_
                  intro w141 hS hE hD hH
                  replace hO := hO.mv hE rfl rfl
                  replace h133 := h133.mv hE rfl
                  replace h134 := h134.mv hE rfl
                  replace h136 := h136.mv hE rfl
                  replace h137 := h137.mv hE rfl
                  clear hE
                  refine take T [0, 1, 2, 5, 6, 11, 7, 12] [4, 6, 13] [1, 3, 5, 7, 10, 11, 117, 118, 119, 122, 124, 129] hS (by kernel_rfl) (by kernel_rfl) (by kernel_rfl) hH (listed' := #[true, true, true, false, false, true, true, true, false, false, false, true, true, false, false, false, false, false, false]) (fuel := 11) (sy' := ⟨[(1, V (.slice a2 l_.length c2)), (3, Pt 4 0), (5, Pt 6 0), (7, I r112.1), (10, V (.slice a117 r116.length c118)), (11, I i_135), (117, V (.agg #[.int .i64 o_.States, .int .i64 o_.Kinds, .int .i64 o_.Init, .slice a1 o_.Rows.length c1])), (118, V (.slice a117 r116.length c118)), (119, I i_135), (122, V (.slice a2 l_.length c2)), (124, I ((gi x_.Picks i_135).Oper)), (129, I ((gi x_.Picks i_135).Result))], [(4, (24, [I o_.States, I o_.Kinds, I o_.Init, V (.slice a1 o_.Rows.length c1)])), (6, (28, [V (.slice a3 x_.Picks.length c3), I x_.State, I x_.Kind, I x_.Result])), (13, (52, [I ((gi x_.Picks i_135).Oper), I ((gi x_.Picks i_135).Result)]))]⟩) (by kernel_rfl) (by rfl) ?_
                  intro a hS
                  obtain ⟨hq, hm⟩ := hm
                  refine dindex (e := 3) (k := .i64) T 3 hS (by kernel_rfl) (by kernel_rfl) (by kernel_rfl) (by rfl) (by kernel_rfl) hH (by kernel_rfl) (by kernel_rfl) h134 (by kernel_rfl) (by kernel_rfl) hq.1 hq.2 ?_
                  intro A142 a h143 hS
                  clear hq
                  have h143b := h143.here
                  refine dload1 T 4 hS (by kernel_rfl) (by kernel_rfl) (by kernel_rfl) (by rfl) (by kernel_rfl) hH (by kernel_rfl) h143 h143b rfl (by kernel_rfl) ?_
                  intro v144 a hv hS
                  cases hv
                  obtain ⟨hq, hm⟩ := hm
                  refine dindex (e := 54) (k := .i64) T 8 hS (by kernel_rfl) (by kernel_rfl) (by kernel_rfl) (by rfl) (by kernel_rfl) hH (by kernel_rfl) (by kernel_rfl) h133 (by kernel_rfl) (by kernel_rfl) hq.1 hq.2 ?_
                  intro A145 a h146 hS
                  clear hq
                  have h146b := h146.here
                  refine dfieldA (off := 1) (fsz := 1) (ft := 3) (TF := tI) (y := (gi l_ ((gi x_.Picks i_135).Oper)).Kind) 9 T hS (by kernel_rfl) (by kernel_rfl) (by kernel_rfl) (by rfl) (by kernel_rfl) hH (by kernel_rfl) h146 (by kernel_rfl) (by kernel_rfl) (by kernel_rfl) (fun cs h => Api_Oper_f1 h) ?_
                  intro A147 a h148 hbl hS
                  have h148b := h146b
                  rw [← hbl] at h148b
                  clear hbl
                  refine dload1 T 10 hS (by kernel_rfl) (by kernel_rfl) (by kernel_rfl) (by rfl) (by kernel_rfl) hH (by kernel_rfl) h148 h148b rfl (by kernel_rfl) ?_
                  intro v149 a hv hS
                  cases hv
                  refine only 13 (by kernel_rfl) (by rfl) (call hS (by kernel_rfl) (by kernel_rfl) hb17 (by kernel_rfl) (fun _ _ => rfl) (k17 _ _ o_ (gi r116 i_135) ((gi l_ ((gi x_.Picks i_135).Oper)).Kind) ((gi x_.Picks i_135).Result) a1 c1 h136) ?_)
                  intro v150 a w151 χ152 hE hp hS
                  replace hO := hO.mv hE rfl rfl
                  replace hD := hD.ev hE rfl
                  replace h133 := h133.mv hE rfl
                  replace h134 := h134.mv hE rfl
                  replace h136 := h136.mv hE rfl
                  replace h137 := h137.mv hE rfl
                  replace h143 := h143.mv hE rfl
                  replace h146 := h146.mv hE rfl
                  replace h148 := h148.mv hE rfl
                  clear hE
                  obtain ⟨r153, hr⟩ : ∃ r, run_Step o_ (gi r116 i_135) ((gi l_ ((gi x_.Picks i_135).Oper)).Kind) ((gi x_.Picks i_135).Result) = r := ⟨_, rfl⟩
                  replace hm := hm r153 hr
                  rw [hr] at hp
                  clear hr
                  subst hp
                  replace hS := hS.sel [1, 3, 5, 7, 10, 11, 117, 118, 119, 122, 124, 129, 120, 121, 125, 126, 127, 130] [4, 6, 13] (sy' := ⟨[(1, V (.slice a2 l_.length c2)), (3, Pt 4 0), (5, Pt 6 0), (7, I r112.1), (10, V (.slice a117 r116.length c118)), (11, I i_135), (117, V (.agg #[.int .i64 o_.States, .int .i64 o_.Kinds, .int .i64 o_.Init, .slice a1 o_.Rows.length c1])), (118, V (.slice a117 r116.length c118)), (119, I i_135), (122, V (.slice a2 l_.length c2)), (124, I ((gi x_.Picks i_135).Oper)), (129, I ((gi x_.Picks i_135).Result)), (120, V (.pointer (some A142))), (121, I (gi r116 i_135)), (125, V (.pointer (some A145))), (126, V (.pointer (some A147))), (127, I ((gi l_ ((gi x_.Picks i_135).Oper)).Kind)), (130, V (.tuple #[.int .i64 r153.1, .int .i64 r153.2]))], [(4, (24, [I o_.States, I o_.Kinds, I o_.Init, V (.slice a1 o_.Rows.length c1)])), (6, (28, [V (.slice a3 x_.Picks.length c3), I x_.State, I x_.Kind, I x_.Result])), (13, (52, [I ((gi x_.Picks i_135).Oper), I ((gi x_.Picks i_135).Result)]))]⟩) (by kernel_rfl)
                  refine andH (Hold.of hS (bks := [4, 6, 13]) (by kernel_rfl) hD) ?_
                  intro hH
                  refine take T [14, 15, 16, 17, 18] [4, 6, 13] [1, 3, 5, 7, 10, 11, 13, 14] hS (by kernel_rfl) (by kernel_rfl) (by kernel_rfl) hH (listed' := #[true, true, true, true, true, true, true, true, true, true, true, true, true, true, true, true, true, true, true]) (fuel := 0) (sy' := ⟨[(1, V (.slice a2 l_.length c2)), (3, Pt 4 0), (5, Pt 6 0), (7, I r112.1), (10, V (.slice a117 r116.length c118)), (11, I i_135), (13, I r153.1), (14, I r153.2)], [(4, (24, [I o_.States, I o_.Kinds, I o_.Init, V (.slice a1 o_.Rows.length c1)])), (6, (28, [V (.slice a3 x_.Picks.length c3), I x_.State, I x_.Kind, I x_.Result])), (13, (52, [I ((gi x_.Picks i_135).Oper), I ((gi x_.Picks i_135).Result)]))]⟩) (by kernel_rfl) (by rfl) ?_
                  intro a hS
                  refine drawnDone (by kernel_rfl) ?_
                  clear hD hH
                  replace hS := hS.sel [1, 3, 5, 7, 10, 11, 13, 14] [4, 6] (sy' := ⟨[(1, V (.slice a2 l_.length c2)), (3, Pt 4 0), (5, Pt 6 0), (7, I r112.1), (10, V (.slice a117 r116.length c118)), (11, I i_135), (13, I r153.1), (14, I r153.2)], [(4, (24, [I o_.States, I o_.Kinds, I o_.Init, V (.slice a1 o_.Rows.length c1)])), (6, (28, [V (.slice a3 x_.Picks.length c3), I x_.State, I x_.Kind, I x_.Result]))]⟩) (by kernel_rfl)
                  refine drawnS [4, 6] mixed hS ?_
                  intro w154 hS hE hD hH
                  replace hO := hO.mv hE rfl rfl
                  replace h133 := h133.mv hE rfl
                  replace h134 := h134.mv hE rfl
                  replace h136 := h136.mv hE rfl
                  replace h137 := h137.mv hE rfl
                  clear hE
                  refine take T [0, 1, 2, 4, 3] [4, 6] [1, 3, 5, 7, 10, 11, 13, 14, 134, 135, 137, 138] hS (by kernel_rfl) (by kernel_rfl) (by kernel_rfl) hH (listed' := #[true, true, true, true, true, false, false, false, false, false, false, false, false, false]) (fuel := 9) (sy' := ⟨[(1, V (.slice a2 l_.length c2)), (3, Pt 4 0), (5, Pt 6 0), (7, I r112.1), (10, V (.slice a117 r116.length c118)), (11, I i_135), (13, I r153.1), (14, I r153.2), (134, V (.agg #[.int .i64 o_.States, .int .i64 o_.Kinds, .int .i64 o_.Init, .slice a1 o_.Rows.length c1])), (135, V (.slice a2 l_.length c2)), (137, V (.slice a3 x_.Picks.length c3)), (138, I i_135)], [(4, (24, [I o_.States, I o_.Kinds, I o_.Init, V (.slice a1 o_.Rows.length c1)])), (6, (28, [V (.slice a3 x_.Picks.length c3), I x_.State, I x_.Kind, I x_.Result]))]⟩) (by kernel_rfl) (by rfl) ?_
                  intro a hS
                  obtain ⟨hq, hm⟩ := hm
                  refine dslice0 (E := 52) (kh := .i64) T 5 hS (by kernel_rfl) (by kernel_rfl) (by kernel_rfl) (by rfl) (by kernel_rfl) hH (by kernel_rfl) (by kernel_rfl) h137 (by kernel_rfl) (by kernel_rfl) hq.1 hq.2 ?_
                  intro a155 c156 a h157 hS
                  clear hq
                  obtain ⟨hq, hm⟩ := hm
                  refine only 6 (by kernel_rfl) (by rfl) (call hS (by kernel_rfl) (by kernel_rfl) hb14 (by kernel_rfl) (fun _ _ => rfl) (k14 _ _ o_ l_ (x_.Picks.take i_135.toNat) a1 c1 a2 c2 a155 c156 hq h136 h133 h157) ?_)
                  intro v158 a w159 χ160 hE hp hS
                  clear hq
                  replace hO := hO.mv hE rfl rfl
                  replace hD := hD.ev hE rfl
                  replace h133 := h133.mv hE rfl
                  replace h134 := h134.mv hE rfl
                  replace h136 := h136.mv hE rfl
                  replace h137 := h137.mv hE rfl
                  replace h157 := h157.mv hE rfl
                  clear hE
                  obtain ⟨r161, hr⟩ : ∃ r, run_Picks o_ l_ (x_.Picks.take i_135.toNat) = r := ⟨_, rfl⟩
                  replace hm := hm r161 hr
                  rw [hr] at hp
                  clear hr
                  subst hp
                  replace hS := hS.sel [1, 3, 5, 7, 10, 11, 13, 14, 134, 135, 137, 138, 139, 140] [4, 6] (sy' := ⟨[(1, V (.slice a2 l_.length c2)), (3, Pt 4 0), (5, Pt 6 0), (7, I r112.1), (10, V (.slice a117 r116.length c118)), (11, I i_135), (13, I r153.1), (14, I r153.2), (134, V (.agg #[.int .i64 o_.States, .int .i64 o_.Kinds, .int .i64 o_.Init, .slice a1 o_.Rows.length c1])), (135, V (.slice a2 l_.length c2)), (137, V (.slice a3 x_.Picks.length c3)), (138, I i_135), (139, V (.slice a155 (x_.Picks.take i_135.toNat).length c156)), (140, V (.tuple #[.int .i64 r161.1, .int .i64 r161.2.1, .int .i64 r161.2.2]))], [(4, (24, [I o_.States, I o_.Kinds, I o_.Init, V (.slice a1 o_.Rows.length c1)])), (6, (28, [V (.slice a3 x_.Picks.length c3), I x_.State, I x_.Kind, I x_.Result]))]⟩) (by kernel_rfl)
                  refine andH (Hold.of hS (bks := [4, 6]) (by kernel_rfl) hD) ?_
                  intro hH
                  refine take T [7, 8, 9, 10, 11, 12, 13] [4, 6] [1, 3, 5, 7, 10, 11, 13, 14, 15, 17] hS (by kernel_rfl) (by kernel_rfl) (by kernel_rfl) hH (listed' := #[true, true, true, true, true, true, true, true, true, true, true, true, true, true]) (fuel := 0) (sy' := ⟨[(1, V (.slice a2 l_.length c2)), (3, Pt 4 0), (5, Pt 6 0), (7, I r112.1), (10, V (.slice a117 r116.length c118)), (11, I i_135), (13, I r153.1), (14, I r153.2), (15, I r161.1), (17, I r161.2.2)], [(4, (24, [I o_.States, I o_.Kinds, I o_.Init, V (.slice a1 o_.Rows.length c1)])), (6, (28, [V (.slice a3 x_.Picks.length c3), I x_.State, I x_.Kind, I x_.Result]))]⟩) (by kernel_rfl) (by rfl) ?_
                  intro a hS
                  refine drawnDone (by kernel_rfl) ?_
                  clear hD hH
                  replace hS := hS.sel [1, 3, 5, 7, 10, 11, 13, 14, 15, 17] [4, 6] (sy' := ⟨[(1, V (.slice a2 l_.length c2)), (3, Pt 4 0), (5, Pt 6 0), (7, I r112.1), (10, V (.slice a117 r116.length c118)), (11, I i_135), (13, I r153.1), (14, I r153.2), (15, I r161.1), (17, I r161.2.2)], [(4, (24, [I o_.States, I o_.Kinds, I o_.Init, V (.slice a1 o_.Rows.length c1)])), (6, (28, [V (.slice a3 x_.Picks.length c3), I x_.State, I x_.Kind, I x_.Result]))]⟩) (by kernel_rfl)
                  refine drawnS [4, 6] mixed hS ?_
                  intro w162 hS hE hD hH
                  replace hO := hO.mv hE rfl rfl
                  replace h133 := h133.mv hE rfl
                  replace h134 := h134.mv hE rfl
                  replace h136 := h136.mv hE rfl
                  replace h137 := h137.mv hE rfl
                  clear hE
                  refine take T [0, 1, 2, 3, 6, 8, 7] [4, 6] [1, 3, 5, 7, 10, 11, 13, 14, 15, 17, 145, 146, 147, 148, 152, 153] hS (by kernel_rfl) (by kernel_rfl) (by kernel_rfl) hH (listed' := #[true, true, true, true, false, false, true, true, true, false, false, false, false, false, false, false, false, false]) (fuel := 11) (sy' := ⟨[(1, V (.slice a2 l_.length c2)), (3, Pt 4 0), (5, Pt 6 0), (7, I r112.1), (10, V (.slice a117 r116.length c118)), (11, I i_135), (13, I r153.1), (14, I r153.2), (15, I r161.1), (17, I r161.2.2), (145, V (.agg #[.int .i64 o_.States, .int .i64 o_.Kinds, .int .i64 o_.Init, .slice a1 o_.Rows.length c1])), (146, V (.slice a2 l_.length c2)), (147, V (.slice a117 r116.length c118)), (148, I i_135), (152, V (.slice a3 x_.Picks.length c3)), (153, I i_135)], [(4, (24, [I o_.States, I o_.Kinds, I o_.Init, V (.slice a1 o_.Rows.length c1)])), (6, (28, [V (.slice a3 x_.Picks.length c3), I x_.State, I x_.Kind, I x_.Result]))]⟩) (by kernel_rfl) (by rfl) ?_
                  intro a hS
                  obtain ⟨hq, hm⟩ := hm
                  refine dindex (e := 3) (k := .i64) T 4 hS (by kernel_rfl) (by kernel_rfl) (by kernel_rfl) (by rfl) (by kernel_rfl) hH (by kernel_rfl) (by kernel_rfl) h134 (by kernel_rfl) (by kernel_rfl) hq.1 hq.2 ?_
                  intro A163 a h164 hS
                  clear hq
                  have h164b := h164.here
                  refine dload1 T 5 hS (by kernel_rfl) (by kernel_rfl) (by kernel_rfl) (by rfl) (by kernel_rfl) hH (by kernel_rfl) h164 h164b rfl (by kernel_rfl) ?_
                  intro v165 a hv hS
                  cases hv
                  obtain ⟨hq, hm⟩ := hm
                  refine dslice1 (E := 52) (kl := .i64) T 9 hS (by kernel_rfl) (by kernel_rfl) (by kernel_rfl) (by rfl) (by kernel_rfl) hH (by kernel_rfl) (by kernel_rfl) h137 (by kernel_rfl) (by kernel_rfl) hq.1 hq.2 ?_
                  intro a166 c167 a h168 hS
                  clear hq
                  obtain ⟨hq, hm⟩ := hm
                  refine only 10 (by kernel_rfl) (by rfl) (call hS (by kernel_rfl) (by kernel_rfl) hb16 (by kernel_rfl) (fun _ _ => rfl) (k16 _ _ o_ l_ (gi r116 i_135) (x_.Picks.drop i_135.toNat) a1 c1 a2 c2 a166 c167 hq h136 h133 h168) ?_)
                  intro v169 a w170 χ171 hE hp hS
                  clear hq
                  replace hO := hO.mv hE rfl rfl
                  replace hD := hD.ev hE rfl
                  replace h133 := h133.mv hE rfl
                  replace h134 := h134.mv hE rfl
                  replace h136 := h136.mv hE rfl
                  replace h137 := h137.mv hE rfl
                  replace h164 := h164.mv hE rfl
                  replace h168 := h168.mv hE rfl
                  clear hE
                  obtain ⟨r172, hr⟩ : ∃ r, run_From o_ l_ (gi r116 i_135) (x_.Picks.drop i_135.toNat) = r := ⟨_, rfl⟩
                  replace hm := hm r172 hr
                  rw [hr] at hp
                  clear hr
                  subst hp
                  replace hS := hS.sel [1, 3, 5, 7, 10, 11, 13, 14, 15, 17, 145, 146, 147, 148, 152, 153, 149, 150, 154, 155] [4, 6] (sy' := ⟨[(1, V (.slice a2 l_.length c2)), (3, Pt 4 0), (5, Pt 6 0), (7, I r112.1), (10, V (.slice a117 r116.length c118)), (11, I i_135), (13, I r153.1), (14, I r153.2), (15, I r161.1), (17, I r161.2.2), (145, V (.agg #[.int .i64 o_.States, .int .i64 o_.Kinds, .int .i64 o_.Init, .slice a1 o_.Rows.length c1])), (146, V (.slice a2 l_.length c2)), (147, V (.slice a117 r116.length c118)), (148, I i_135), (152, V (.slice a3 x_.Picks.length c3)), (153, I i_135), (149, V (.pointer (some A163))), (150, I (gi r116 i_135)), (154, V (.slice a166 (x_.Picks.drop i_135.toNat).length c167)), (155, V (.tuple #[.int .i64 r172.1, .int .i64 r172.2.1, .int .i64 r172.2.2]))], [(4, (24, [I o_.States, I o_.Kinds, I o_.Init, V (.slice a1 o_.Rows.length c1)])), (6, (28, [V (.slice a3 x_.Picks.length c3), I x_.State, I x_.Kind, I x_.Result]))]⟩) (by kernel_rfl)
                  refine andH (Hold.of hS (bks := [4, 6]) (by kernel_rfl) hD) ?_
                  intro hH
                  refine take T [11, 12, 13, 14, 15, 16, 17] [4, 6] [1, 3, 5, 7, 10, 11, 13, 14, 15, 17, 18, 20] hS (by kernel_rfl) (by kernel_rfl) (by kernel_rfl) hH (listed' := #[true, true, true, true, true, true, true, true, true, true, true, true, true, true, true, true, true, true]) (fuel := 0) (sy' := ⟨[(1, V (.slice a2 l_.length c2)), (3, Pt 4 0), (5, Pt 6 0), (7, I r112.1), (10, V (.slice a117 r116.length c118)), (11, I i_135), (13, I r153.1), (14, I r153.2), (15, I r161.1), (17, I r161.2.2), (18, I r172.1), (20, I r172.2.2)], [(4, (24, [I o_.States, I o_.Kinds, I o_.Init, V (.slice a1 o_.Rows.length c1)])), (6, (28, [V (.slice a3 x_.Picks.length c3), I x_.State, I x_.Kind, I x_.Result]))]⟩) (by kernel_rfl) (by rfl) ?_
                  intro a hS
                  refine drawnDone (by kernel_rfl) ?_
                  clear hD hH
                  replace hS := hS.sel [1, 3, 5, 7, 10, 11, 13, 14, 15, 17, 18, 20] [4, 6] (sy' := ⟨[(1, V (.slice a2 l_.length c2)), (3, Pt 4 0), (5, Pt 6 0), (7, I r112.1), (10, V (.slice a117 r116.length c118)), (11, I i_135), (13, I r153.1), (14, I r153.2), (15, I r161.1), (17, I r161.2.2), (18, I r172.1), (20, I r172.2.2)], [(4, (24, [I o_.States, I o_.Kinds, I o_.Init, V (.slice a1 o_.Rows.length c1)])), (6, (28, [V (.slice a3 x_.Picks.length c3), I x_.State, I x_.Kind, I x_.Result]))]⟩) (by kernel_rfl)
                  refine wcut (fun a w => ∃ (ρ : Nat → Nat) (χ : Nat → Nat) (x_175 : Bool), VC5_J3 Q I1 μ1 i_135 x_175 ∧ St Try.f5.ntmps ⟨[(1, V (.slice a2 l_.length c2)), (3, Pt 4 0), (5, Pt 6 0), (7, I r112.1), (10, V (.slice a117 r116.length c118)), (11, I i_135), (190, B x_175)], [(4, (24, [I o_.States, I o_.Kinds, I o_.Init, V (.slice a1 o_.Rows.length c1)])), (6, (28, [V (.slice a3 x_.Picks.length c3), I x_.State, I x_.Kind, I x_.Result]))]⟩ ρ a w χ ∧ Old w0 χ0 w χ ∧ RS tApi_Oper w χ a2 l_ c2 ∧ RS tI w χ a117 r116 c118 ∧ RS tApi_Row w χ a1 o_.Rows c1 ∧ RS tApi_Pick w χ a3 x_.Picks c3) ?_ ?_
                  · refine region ?_
                    refine opsP T hS 3 (sp := []) (ks := [1, 3, 5, 7, 10, 11, 13, 15, 17, 18, 20, 161]) (bs := [4, 6]) (sy' := ⟨[(1, V (.slice a2 l_.length c2)), (3, Pt 4 0), (5, Pt 6 0), (7, I r112.1), (10, V (.slice a117 r116.length c118)), (11, I i_135), (13, I r153.1), (15, I r161.1), (17, I r161.2.2), (18, I r172.1), (20, I r172.2.2), (161, B (r153.2 != 0))], [(4, (24, [I o_.States, I o_.Kinds, I o_.Init, V (.slice a1 o_.Rows.length c1)])), (6, (28, [V (.slice a3 x_.Picks.length c3), I x_.State, I x_.Kind, I x_.Result]))]⟩) (by kernel_rfl) ?_
                    intro a hS
                    rcases Bool.eq_false_or_eq_true (r153.2 != 0) with hb | hb
                    · replace hS := hS.lit (t := 161) (by kernel_rfl) hb
                      replace hm := hm.1 hb
                      refine endP T hS (sp := []) (ks := [1, 3, 5, 7, 10, 11, 190]) (bs := [4, 6]) (sy' := ⟨[(1, V (.slice a2 l_.length c2)), (3, Pt 4 0), (5, Pt 6 0), (7, I r112.1), (10, V (.slice a117 r116.length c118)), (11, I i_135), (190, B true)], [(4, (24, [I o_.States, I o_.Kinds, I o_.Init, V (.slice a1 o_.Rows.length c1)])), (6, (28, [V (.slice a3 x_.Picks.length c3), I x_.State, I x_.Kind, I x_.Result]))]⟩) (by kernel_rfl) ?_
                      intro a hS
                      exact ⟨ρ, _, true, hm, hS.sel [1, 3, 5, 7, 10, 11, 190] [4, 6] (by kernel_rfl), hO, h133, h134, h136, h137⟩
                    · replace hS := hS.lit (t := 161) (by kernel_rfl) hb
                      replace hm := hm.2 hb
                      refine opsP T hS 4 (sp := []) (ks := [1, 3, 5, 7, 10, 11, 15, 17, 18, 20, 161, 162, 163, 164, 165]) (bs := [4, 6]) (sy' := ⟨[(1, V (.slice a2 l_.length c2)), (3, Pt 4 0), (5, Pt 6 0), (7, I r112.1), (10, V (.slice a117 r116.length c118)), (11, I i_135), (15, I r161.1), (17, I r161.2.2), (18, I r172.1), (20, I r172.2.2), (161, B false), (162, I r153.1), (163, V (.slice a117 r116.length c118)), (164, I i_135), (165, I (IntKind.i64.wrap (i_135 + 1)))], [(4, (24, [I o_.States, I o_.Kinds, I o_.Init, V (.slice a1 o_.Rows.length c1)])), (6, (28, [V (.slice a3 x_.Picks.length c3), I x_.State, I x_.Kind, I x_.Result]))]⟩) (by kernel_rfl) ?_
                      intro a hS
                      obtain ⟨hq, hm⟩ := hm
                      refine op1 (index (e := 3) (k := .i64) T hS (by kernel_rfl) (by kernel_rfl) (by kernel_rfl) (by kernel_rfl) h134 (by kernel_rfl) (by kernel_rfl) hq.1 hq.2 ?_)
                      intro A178 a h179 hS
                      clear hq
                      refine op1 (load1 T hS (by kernel_rfl) (by kernel_rfl) (by kernel_rfl) h179 rfl (by kernel_rfl) ?_)
                      intro v180 a hv hS
                      cases hv
                      refine opsP T hS 7 (sp := [170]) (ks := [1, 3, 5, 7, 10, 11, 15, 18, 20, 162, 163, 164, 165, 166, 167, 168, 174]) (bs := [4, 6]) (sy' := ⟨[(1, V (.slice a2 l_.length c2)), (3, Pt 4 0), (5, Pt 6 0), (7, I r112.1), (10, V (.slice a117 r116.length c118)), (11, I i_135), (15, I r161.1), (18, I r172.1), (20, I r172.2.2), (162, I r153.1), (163, V (.slice a117 r116.length c118)), (164, I i_135), (165, I (IntKind.i64.wrap (i_135 + 1))), (166, V (.pointer (some A178))), (167, I (gi r116 (IntKind.i64.wrap (i_135 + 1)))), (168, B (r153.1 != (gi r116 (IntKind.i64.wrap (i_135 + 1))))), (174, B ((r153.1 != (gi r116 (IntKind.i64.wrap (i_135 + 1)))) || (r161.2.2 != 0)))], [(4, (24, [I o_.States, I o_.Kinds, I o_.Init, V (.slice a1 o_.Rows.length c1)])), (6, (28, [V (.slice a3 x_.Picks.length c3), I x_.State, I x_.Kind, I x_.Result]))]⟩) (by kernel_rfl) ?_
                      intro a hS
                      rcases Bool.eq_false_or_eq_true ((r153.1 != (gi r116 (IntKind.i64.wrap (i_135 + 1)))) || (r161.2.2 != 0)) with hb | hb
                      · replace hS := hS.lit (t := 174) (by kernel_rfl) hb
                        replace hm := hm.1 hb
                        refine endP T hS (sp := []) (ks := [1, 3, 5, 7, 10, 11, 162, 163, 164, 165, 166, 167, 168, 190]) (bs := [4, 6]) (sy' := ⟨[(1, V (.slice a2 l_.length c2)), (3, Pt 4 0), (5, Pt 6 0), (7, I r112.1), (10, V (.slice a117 r116.length c118)), (11, I i_135), (162, I r153.1), (163, V (.slice a117 r116.length c118)), (164, I i_135), (165, I (IntKind.i64.wrap (i_135 + 1))), (166, V (.pointer (some A178))), (167, I (gi r116 (IntKind.i64.wrap (i_135 + 1)))), (168, B (r153.1 != (gi r116 (IntKind.i64.wrap (i_135 + 1))))), (190, B true)], [(4, (24, [I o_.States, I o_.Kinds, I o_.Init, V (.slice a1 o_.Rows.length c1)])), (6, (28, [V (.slice a3 x_.Picks.length c3), I x_.State, I x_.Kind, I x_.Result]))]⟩) (by kernel_rfl) ?_
                        intro a hS
                        exact ⟨ρ, _, true, hm, hS.sel [1, 3, 5, 7, 10, 11, 190] [4, 6] (by kernel_rfl), hO, h133, h134, h136, h137⟩
                      · replace hS := hS.lit (t := 174) (by kernel_rfl) hb
                        replace hm := hm.2 hb
                        refine opsP T hS 3 (sp := []) (ks := [1, 3, 5, 7, 10, 11, 18, 20, 162, 163, 164, 165, 166, 167, 168, 174, 175, 176, 177]) (bs := [4, 6]) (sy' := ⟨[(1, V (.slice a2 l_.length c2)), (3, Pt 4 0), (5, Pt 6 0), (7, I r112.1), (10, V (.slice a117 r116.length c118)), (11, I i_135), (18, I r172.1), (20, I r172.2.2), (162, I r153.1), (163, V (.slice a117 r116.length c118)), (164, I i_135), (165, I (IntKind.i64.wrap (i_135 + 1))), (166, V (.pointer (some A178))), (167, I (gi r116 (IntKind.i64.wrap (i_135 + 1)))), (168, B (r153.1 != (gi r116 (IntKind.i64.wrap (i_135 + 1))))), (174, B false), (175, I r161.1), (176, V (.slice a117 r116.length c118)), (177, I i_135)], [(4, (24, [I o_.States, I o_.Kinds, I o_.Init, V (.slice a1 o_.Rows.length c1)])), (6, (28, [V (.slice a3 x_.Picks.length c3), I x_.State, I x_.Kind, I x_.Result]))]⟩) (by kernel_rfl) ?_
                        intro a hS
                        obtain ⟨hq, hm⟩ := hm
                        refine op1 (index (e := 3) (k := .i64) T hS (by kernel_rfl) (by kernel_rfl) (by kernel_rfl) (by kernel_rfl) h134 (by kernel_rfl) (by kernel_rfl) hq.1 hq.2 ?_)
                        intro A181 a h182 hS
                        clear hq
                        refine op1 (load1 T hS (by kernel_rfl) (by kernel_rfl) (by kernel_rfl) h182 rfl (by kernel_rfl) ?_)
                        intro v183 a hv hS
                        cases hv
                        refine endP T hS (sp := [182, 186]) (ks := [1, 3, 5, 7, 10, 11, 162, 163, 164, 165, 166, 167, 168, 175, 176, 177, 178, 179, 180, 190]) (bs := [4, 6]) (sy' := ⟨[(1, V (.slice a2 l_.length c2)), (3, Pt 4 0), (5, Pt 6 0), (7, I r112.1), (10, V (.slice a117 r116.length c118)), (11, I i_135), (162, I r153.1), (163, V (.slice a117 r116.length c118)), (164, I i_135), (165, I (IntKind.i64.wrap (i_135 + 1))), (166, V (.pointer (some A178))), (167, I (gi r116 (IntKind.i64.wrap (i_135 + 1)))), (168, B (r153.1 != (gi r116 (IntKind.i64.wrap (i_135 + 1))))), (175, I r161.1), (176, V (.slice a117 r116.length c118)), (177, I i_135), (178, V (.pointer (some A181))), (179, I (gi r116 i_135)), (180, B (r161.1 != (gi r116 i_135))), (190, B (((r161.1 != (gi r116 i_135)) || (r172.2.2 != 0)) || (r172.1 != r112.1)))], [(4, (24, [I o_.States, I o_.Kinds, I o_.Init, V (.slice a1 o_.Rows.length c1)])), (6, (28, [V (.slice a3 x_.Picks.length c3), I x_.State, I x_.Kind, I x_.Result]))]⟩) (by kernel_rfl) ?_
                        intro a hS
                        exact ⟨ρ, _, (((r161.1 != (gi r116 i_135)) || (r172.2.2 != 0)) || (r172.1 != r112.1)), hm, hS.sel [1, 3, 5, 7, 10, 11, 190] [4, 6] (by kernel_rfl), hO, h133, h134, h136, h137⟩
                  · rintro a w185 ⟨ρ, χ184, x_175, hm, hS, hO, h173, h174, h176, h177⟩
                    unfold VC5_J3 at hm
                    refine wcond hS (b := x_175) (by kernel_rfl) (fun hb => ?_) (fun hb => ?_)
                    · replace hm := hm.1 hb
                      refine regP T hS (sp := []) (ks := [6]) (bs := []) (sy' := ⟨[(6, B false)], []⟩) (by kernel_rfl) ?_
                      intro a hS
                      refine wret ?_
                      exact fin T hS hO (fun c => c) rfl (r := [.bool false]) (by kernel_rfl) (fun χ' hM hC => ⟨false, hm, rfl⟩)
                    · replace hm := hm.2 hb
                      refine wskip ?_
                      refine region (endP T hS (sp := []) (ks := [1, 3, 5, 7, 10, 11]) (bs := [4, 6]) (sy' := ⟨[(1, V (.slice a2 l_.length c2)), (3, Pt 4 0), (5, Pt 6 0), (7, I r112.1), (10, V (.slice a117 r116.length c118)), (11, I (IntKind.i64.wrap (i_135 + 1)))], [(4, (24, [I o_.States, I o_.Kinds, I o_.Init, V (.slice a1 o_.Rows.length c1)])), (6, (28, [V (.slice a3 x_.Picks.length c3), I x_.State, I x_.Kind, I x_.Result]))]⟩) (by kernel_rfl) ?_)
                      intro a hS
                      exact ⟨IntKind.i64.wrap (i_135 + 1), ⟨ρ, _, hm.1, hS.sel [1, 3, 5, 7, 10, 11] [4, 6] (by kernel_rfl), hO, h173, h174, h176, h177⟩, hm.2⟩
              · replace hm := hm.2 hb
                refine wexit (by rfl) ?_
                exact ⟨ρ, _, hm, hS.sel [] [] (by kernel_rfl), hO⟩
          · rintro a w191 ⟨ρ, χ190, hm, hS, hO⟩
            unfold VC5_J2 at hm
            refine regO ?_
            refine op1 (call hS (by kernel_rfl) (by kernel_rfl) hb13 (by kernel_rfl) (fun _ _ => rfl) (k13 _ _) ?_)
            intro v129 a w130 χ131 hE hp hS
            replace hO := hO.mv hE rfl rfl
            clear hE
            obtain ⟨r132, hr⟩ : ∃ r, law28_awake = r := ⟨_, rfl⟩
            replace hm := hm r132 hr
            rw [hr] at hp
            clear hr
            subst hp
            refine endP T hS (sp := []) (ks := [6]) (bs := []) (sy' := ⟨[(6, B r132)], []⟩) (by kernel_rfl) ?_
            intro a hS
            refine wret ?_
            exact fin T hS hO (fun c => c) rfl (r := [.bool r132]) (by kernel_rfl) (fun χ' hM hC => ⟨r132, hm, rfl⟩)
/-- replevin/replevinlaw28.RunJoins -/
theorem W6 (k12 : S12) (k13 : S13) (k14 : S14) (k22 : S22) (k24 : S24) (w0 : World) (χ0 : Nat → Nat) (o_ : Api_Object) (l_ : List Api_Oper) (x_ : Law28_Case) (a1 : Option Addr) (c1 : Nat) (a2 : Option Addr) (c2 : Nat) (a3 : Option Addr) (c3 : Nat) (Q : Bool → Prop) (hm : VC6 o_ l_ x_ Q) (h1 : RS tApi_Row w0 χ0 a1 o_.Rows c1) (h2 : RS tApi_Oper w0 χ0 a2 l_ c2) (h3 : RS tApi_Pick w0 χ0 a3 x_.Picks c3) :
    Ret Try.prog 6 #[.agg #[.int .i64 o_.States, .int .i64 o_.Kinds, .int .i64 o_.Init, .slice a1 o_.Rows.length c1], .slice a2 l_.length c2, .agg #[.slice a3 x_.Picks.length c3, .int .i64 x_.State, .int .i64 x_.Kind, .int .i64 x_.Result]] xnone w0 χ0 (fun w χ' v => ∃ r, Q r ∧ v = .bool r) := by
  unfold VC6 at hm
  replace hm := hm (h1.sm (by kernel_rfl))
  replace hm := hm (h2.sm (by kernel_rfl))
  replace hm := hm (h3.sm (by kernel_rfl))
  refine enter Try.func6 rfl (vals := [.agg #[.int .i64 o_.States, .int .i64 o_.Kinds, .int .i64 o_.Init, .slice a1 o_.Rows.length c1], .slice a2 l_.length c2, .agg #[.slice a3 x_.Picks.length c3, .int .i64 x_.State, .int .i64 x_.Kind, .int .i64 x_.Result]]) (by kernel_rfl) ?_
  intro ρ a hS hO hM
  replace h1 := h1.m0 hM
  replace h2 := h2.m0 hM
  replace h3 := h3.m0 hM
  clear hM
  refine regM T hS (sp := []) (ks := [1, 3, 5]) (bs := [4, 6]) (sy' := ⟨[(1, V (.slice a2 l_.length c2)), (3, Pt 4 0), (5, Pt 6 0)], [(4, (24, [I o_.States, I o_.Kinds, I o_.Init, V (.slice a1 o_.Rows.length c1)])), (6, (28, [V (.slice a3 x_.Picks.length c3), I x_.State, I x_.Kind, I x_.Result]))]⟩) (by kernel_rfl) ?_
  intro ρ a w194 χ195 hS hE hr
  replace hO := hO.mv hE rfl rfl
  replace h1 := h1.mv hE rfl
  replace h2 := h2.mv hE rfl
  replace h3 := h3.mv hE rfl
  clear hE hr
  refine wseq ?_
  refine regO ?_
  refine opsP T hS 1 (sp := []) (ks := [1, 3, 5, 18]) (bs := [4, 6]) (sy' := ⟨[(1, V (.slice a2 l_.length c2)), (3, Pt 4 0), (5, Pt 6 0), (18, V (.agg #[.int .i64 o_.States, .int .i64 o_.Kinds, .int .i64 o_.Init, .slice a1 o_.Rows.length c1]))], [(4, (24, [I o_.States, I o_.Kinds, I o_.Init, V (.slice a1 o_.Rows.length c1)])), (6, (28, [V (.slice a3 x_.Picks.length c3), I x_.State, I x_.Kind, I x_.Result]))]⟩) (by kernel_rfl) ?_
  intro a hS
  refine op1 (call hS (by kernel_rfl) (by kernel_rfl) hb12 (by kernel_rfl) (fun _ _ => rfl) (k12 _ _ o_ a1 c1 h1) ?_)
  intro v101 a w102 χ103 hE hp hS
  replace hO := hO.mv hE rfl rfl
  replace h1 := h1.mv hE rfl
  replace h2 := h2.mv hE rfl
  replace h3 := h3.mv hE rfl
  clear hE
  obtain ⟨r104, hr⟩ : ∃ r, law23_Few o_ = r := ⟨_, rfl⟩
  replace hm := hm r104 hr
  rw [hr] at hp
  clear hr
  subst hp
  refine endP T hS (sp := [21, 26]) (ks := [1, 3, 5, 31]) (bs := [4, 6]) (sy' := ⟨[(1, V (.slice a2 l_.length c2)), (3, Pt 4 0), (5, Pt 6 0), (31, B (((!r104) || (decide (((l_.length : Nat) : Int) > 60))) || (decide (((x_.Picks.length : Nat) : Int) > 60))))], [(4, (24, [I o_.States, I o_.Kinds, I o_.Init, V (.slice a1 o_.Rows.length c1)])), (6, (28, [V (.slice a3 x_.Picks.length c3), I x_.State, I x_.Kind, I x_.Result]))]⟩) (by kernel_rfl) ?_
  intro a hS
  refine wcond hS (b := (((!r104) || (decide (((l_.length : Nat) : Int) > 60))) || (decide (((x_.Picks.length : Nat) : Int) > 60)))) (by kernel_rfl) (fun hb => ?_) (fun hb => ?_)
  · replace hm := hm.1 hb
    refine regO ?_
    refine op1 (call hS (by kernel_rfl) (by kernel_rfl) hb13 (by kernel_rfl) (fun _ _ => rfl) (k13 _ _) ?_)
    intro v105 a w106 χ107 hE hp hS
    replace hO := hO.mv hE rfl rfl
    replace h1 := h1.mv hE rfl
    replace h2 := h2.mv hE rfl
    replace h3 := h3.mv hE rfl
    clear hE
    obtain ⟨r108, hr⟩ : ∃ r, law28_awake = r := ⟨_, rfl⟩
    replace hm := hm r108 hr
    rw [hr] at hp
    clear hr
    subst hp
    refine endP T hS (sp := []) (ks := [6]) (bs := []) (sy' := ⟨[(6, B r108)], []⟩) (by kernel_rfl) ?_
    intro a hS
    refine wret ?_
    exact fin T hS hO (fun c => c) rfl (r := [.bool r108]) (by kernel_rfl) (fun χ' hM hC => ⟨r108, hm, rfl⟩)
  · replace hm := hm.2 hb
    refine wskip ?_
    refine regP T hS (sp := []) (ks := [1, 3, 5, 7]) (bs := [4, 6]) (sy' := ⟨[(1, V (.slice a2 l_.length c2)), (3, Pt 4 0), (5, Pt 6 0), (7, V (.slice none 0 0))], [(4, (24, [I o_.States, I o_.Kinds, I o_.Init, V (.slice a1 o_.Rows.length c1)])), (6, (28, [V (.slice a3 x_.Picks.length c3), I x_.State, I x_.Kind, I x_.Result]))]⟩) (by kernel_rfl) ?_
    intro a hS
    refine wcut (fun a w => ∃ (ρ : Nat → Nat) (χ : Nat → Nat) (order_110 : List Int) (a111 : Option Addr) (c112 : Nat), VC6_J1 o_ l_ x_ Q order_110 ∧ St Try.f6.ntmps ⟨[(1, V (.slice a2 l_.length c2)), (3, Pt 4 0), (5, Pt 6 0), (7, V (.slice a111 order_110.length c112))], [(4, (24, [I o_.States, I o_.Kinds, I o_.Init, V (.slice a1 o_.Rows.length c1)])), (6, (28, [V (.slice a3 x_.Picks.length c3), I x_.State, I x_.Kind, I x_.Result]))]⟩ ρ a w χ ∧ Old w0 χ0 w χ ∧ RS tApi_Oper w χ a2 l_ c2 ∧ OS tI 3 w χ 1008 a111 order_110 c112 ∧ RS tApi_Row w χ a1 o_.Rows c1 ∧ RS tApi_Pick w χ a3 x_.Picks c3) ?_ ?_
    · refine regP T hS (sp := []) (ks := [1, 3, 5, 7, 8]) (bs := [4, 6]) (sy' := ⟨[(1, V (.slice a2 l_.length c2)), (3, Pt 4 0), (5, Pt 6 0), (7, V (.slice none 0 0)), (8, I 0)], [(4, (24, [I o_.States, I o_.Kinds, I o_.Init, V (.slice a1 o_.Rows.length c1)])), (6, (28, [V (.slice a3 x_.Picks.length c3), I x_.State, I x_.Kind, I x_.Result]))]⟩) (by kernel_rfl) ?_
      intro a hS
      refine wblock ?_
      obtain ⟨I2, μ2, hm0, hm⟩ := hm
      refine wloop (σ := (List Int) × Int) (fun s a w => ∃ (ρ : Nat → Nat) (χ : Nat → Nat) (a170 : Option Addr) (c171 : Nat), I2 s.1 s.2 ∧ St Try.f6.ntmps ⟨[(1, V (.slice a2 l_.length c2)), (3, Pt 4 0), (5, Pt 6 0), (7, V (.slice a170 s.1.length c171)), (8, I s.2)], [(4, (24, [I o_.States, I o_.Kinds, I o_.Init, V (.slice a1 o_.Rows.length c1)])), (6, (28, [V (.slice a3 x_.Picks.length c3), I x_.State, I x_.Kind, I x_.Result]))]⟩ ρ a w χ ∧ Old w0 χ0 w χ ∧ RS tApi_Oper w χ a2 l_ c2 ∧ OS tI 3 w χ 1008 a170 s.1 c171 ∧ RS tApi_Row w χ a1 o_.Rows c1 ∧ RS tApi_Pick w χ a3 x_.Picks c3) (fun s => μ2 s.1 s.2) (⟨[], 0⟩) ?_ ?_
      · exact ⟨ρ, _, none, 0, hm0, hS.sel [1, 3, 5, 7, 8] [4, 6] (by kernel_rfl), hO, h2, (OS.nil _ _ _ _ _), h1, h3⟩
      · rintro ⟨order_169, i_173⟩ a w191 ⟨ρ, χ190, a170, c171, hI, hS, hO, h168, h172, h174, h175⟩
        replace hm := hm order_169 i_173 hI
        clear hI hm0
        refine wseq ?_
        refine regP T hS (sp := []) (ks := [1, 3, 5, 7, 8, 37]) (bs := [4, 6]) (sy' := ⟨[(1, V (.slice a2 l_.length c2)), (3, Pt 4 0), (5, Pt 6 0), (7, V (.slice a170 order_169.length c171)), (8, I i_173), (37, B (decide (i_173 < ((x_.Picks.length : Nat) : Int))))], [(4, (24, [I o_.States, I o_.Kinds, I o_.Init, V (.slice a1 o_.Rows.length c1)])), (6, (28, [V (.slice a3 x_.Picks.length c3), I x_.State, I x_.Kind, I x_.Result]))]⟩) (by kernel_rfl) ?_
        intro a hS
        refine wcond hS (b := decide (i_173 < ((x_.Picks.length : Nat) : Int))) (by kernel_rfl) (fun hb => ?_) (fun hb => ?_)
        · replace hm := hm.1 hb
          refine wskip ?_
          refine wseq ?_
          refine wblock ?_
          refine region ?_
          refine opsP T hS 4 (sp := []) (ks := [1, 3, 5, 7, 8, 40, 42, 43]) (bs := [4, 6]) (sy' := ⟨[(1, V (.slice a2 l_.length c2)), (3, Pt 4 0), (5, Pt 6 0), (7, V (.slice a170 order_169.length c171)), (8, I i_173), (40, V (.slice a170 order_169.length c171)), (42, V (.slice a3 x_.Picks.length c3)), (43, I i_173)], [(4, (24, [I o_.States, I o_.Kinds, I o_.Init, V (.slice a1 o_.Rows.length c1)])), (6, (28, [V (.slice a3 x_.Picks.length c3), I x_.State, I x_.Kind, I x_.Result]))]⟩) (by kernel_rfl) ?_
          intro a hS
          obtain ⟨hq, hm⟩ := hm
          refine op1 (index (e := 52) (k := .i64) T hS (by kernel_rfl) (by kernel_rfl) (by kernel_rfl) (by kernel_rfl) h175 (by kernel_rfl) (by kernel_rfl) hq.1 hq.2 ?_)
          intro A176 a h177 hS
          clear hq
          refine op1 (fieldA (off := 0) (fsz := 1) (ft := 3) (TF := tI) (y := (gi x_.Picks i_173).Oper) T hS (by kernel_rfl) (by kernel_rfl) (by kernel_rfl) h177 (by kernel_rfl) (by kernel_rfl) (by kernel_rfl) (fun cs h => Api_Pick_f0 h) ?_)
          intro A178 a h179 hS
          refine op1 (load1 T hS (by kernel_rfl) (by kernel_rfl) (by kernel_rfl) h179 rfl (by kernel_rfl) ?_)
          intro v180 a hv hS
          cases hv
          refine op1 (lit (E := 3) (col := 0) (T := tI) (vals := [.int .i64 ((gi x_.Picks i_173).Oper)]) (ys := [(gi x_.Picks i_173).Oper]) T hS (by kernel_rfl) (by kernel_rfl) (by kernel_rfl) (by kernel_rfl) (by exact ⟨rfl, trivial⟩) rfl (by kernel_rfl) (by kernel_rfl) (by kernel_rfl) (by kernel_rfl) ?_)
          intro b181 a w182 χ183 hE h184 hN hS
          clear hN
          replace hO := hO.mv hE rfl rfl
          replace h168 := h168.mv hE rfl
          replace h172 := h172.mv hE rfl rfl
          replace h174 := h174.mv hE rfl
          replace h175 := h175.mv hE rfl
          replace h177 := h177.mv hE rfl
          replace h179 := h179.mv hE rfl
          clear hE
          replace h184 := h184.rs0
          obtain ⟨hq, hm⟩ := hm
          obtain ⟨news, hN⟩ := h184.src
          refine op1 (append (E := 3) (T := tI) (col := 1008) (xs := order_169) T hS (by kernel_rfl) (by kernel_rfl) (by kernel_rfl) (by kernel_rfl) h172 hN (by kernel_rfl) (by kernel_rfl) (by kernel_rfl) (by kernel_rfl) hq ?_)
          intro a188 c189 a w185 χ186 hE h187 hS
          clear hq hN
          clear h172
          replace hO := hO.mv hE rfl rfl
          replace h168 := h168.mv hE rfl
          replace h174 := h174.mv hE rfl
          replace h175 := h175.mv hE rfl
          replace h177 := h177.mv hE rfl
          replace h179 := h179.mv hE rfl
          replace h184 := h184.mv hE rfl
          clear hE
          refine endP T hS (sp := []) (ks := [1, 3, 5, 7, 8]) (bs := [4, 6]) (sy' := ⟨[(1, V (.slice a2 l_.length c2)), (3, Pt 4 0), (5, Pt 6 0), (7, V (.slice a188 (order_169 ++ [(gi x_.Picks i_173).Oper]).length c189)), (8, I i_173)], [(4, (24, [I o_.States, I o_.Kinds, I o_.Init, V (.slice a1 o_.Rows.length c1)])), (6, (28, [V (.slice a3 x_.Picks.length c3), I x_.State, I x_.Kind, I x_.Result]))]⟩) (by kernel_rfl) ?_
          intro a hS
          refine region (endP T hS (sp := []) (ks := [1, 3, 5, 7, 8]) (bs := [4, 6]) (sy' := ⟨[(1, V (.slice a2 l_.length c2)), (3, Pt 4 0), (5, Pt 6 0), (7, V (.slice a188 (order_169 ++ [(gi x_.Picks i_173).Oper]).length c189)), (8, I (IntKind.i64.wrap (i_173 + 1)))], [(4, (24, [I o_.States, I o_.Kinds, I o_.Init, V (.slice a1 o_.Rows.length c1)])), (6, (28, [V (.slice a3 x_.Picks.length c3), I x_.State, I x_.Kind, I x_.Result]))]⟩) (by kernel_rfl) ?_)
          intro a hS
          exact ⟨⟨order_169 ++ [(gi x_.Picks i_173).Oper], IntKind.i64.wrap (i_173 + 1)⟩, ⟨ρ, _, a188, c189, hm.1, hS.sel [1, 3, 5, 7, 8] [4, 6] (by kernel_rfl), hO, h168, h187, h174, h175⟩, hm.2⟩
        · replace hm := hm.2 hb
          refine wexit (by rfl) ?_
          exact ⟨ρ, _, order_169, a170, c171, hm, hS.sel [1, 3, 5, 7] [4, 6] (by kernel_rfl), hO, h168, h172, h174, h175⟩
    · rintro a w193 ⟨ρ, χ192, order_110, a111, c112, hm, hS, hO, h109, h113, h114, h115⟩
      unfold VC6_J1 at hm
      refine regO ?_
      refine opsP T hS 3 (sp := []) (ks := [1, 3, 5, 7, 50, 51, 52]) (bs := [4, 6]) (sy' := ⟨[(1, V (.slice a2 l_.length c2)), (3, Pt 4 0), (5, Pt 6 0), (7, V (.slice a111 order_110.length c112)), (50, V (.agg #[.int .i64 o_.States, .int .i64 o_.Kinds, .int .i64 o_.Init, .slice a1 o_.Rows.length c1])), (51, V (.slice a2 l_.length c2)), (52, V (.slice a111 order_110.length c112))], [(4, (24, [I o_.States, I o_.Kinds, I o_.Init, V (.slice a1 o_.Rows.length c1)])), (6, (28, [V (.slice a3 x_.Picks.length c3), I x_.State, I x_.Kind, I x_.Result]))]⟩) (by kernel_rfl) ?_
      intro a hS
      obtain ⟨χ116, hE, hF⟩ := h113.freeze (by decide)
      replace hS := hS.ev hE (xone_box (by kernel_rfl))
      replace hO := hO.mv hE rfl rfl
      replace h109 := h109.mv hE rfl
      replace h114 := h114.mv hE rfl
      replace h115 := h115.mv hE rfl
      have h117 := hF; clear hE hF
      obtain ⟨hq, hm⟩ := hm
      refine op1 (call hS (by kernel_rfl) (by kernel_rfl) hb22 (by kernel_rfl) (fun _ _ => rfl) (k22 _ _ o_ l_ order_110 a1 c1 a2 c2 a111 c112 hq h114 h109 h117) ?_)
      intro v118 a w119 χ120 hE hp hS
      clear hq
      replace hO := hO.mv hE rfl rfl
      replace h109 := h109.mv hE rfl
      replace h114 := h114.mv hE rfl
      replace h115 := h115.mv hE rfl
      replace h117 := h117.mv hE rfl
      clear hE
      obtain ⟨a122, c123, hp, h124⟩ := hp
      obtain ⟨r121, hr⟩ : ∃ r, run_Fill o_ l_ order_110 = r := ⟨_, rfl⟩
      replace hm := hm r121 hr
      rw [hr] at hp h124
      clear hr
      subst hp
      replace hm := hm (h124.sm (by kernel_rfl))
      refine endP T hS (sp := []) (ks := [1, 3, 5, 7, 9, 10]) (bs := [4, 6]) (sy' := ⟨[(1, V (.slice a2 l_.length c2)), (3, Pt 4 0), (5, Pt 6 0), (7, V (.slice a111 order_110.length c112)), (9, V (.slice a122 r121.1.length c123)), (10, I r121.2)], [(4, (24, [I o_.States, I o_.Kinds, I o_.Init, V (.slice a1 o_.Rows.length c1)])), (6, (28, [V (.slice a3 x_.Picks.length c3), I x_.State, I x_.Kind, I x_.Result]))]⟩) (by kernel_rfl) ?_
      intro a hS
      refine regO ?_
      refine opsP T hS 4 (sp := []) (ks := [1, 3, 5, 7, 9, 10, 57, 58, 60]) (bs := [4, 6]) (sy' := ⟨[(1, V (.slice a2 l_.length c2)), (3, Pt 4 0), (5, Pt 6 0), (7, V (.slice a111 order_110.length c112)), (9, V (.slice a122 r121.1.length c123)), (10, I r121.2), (57, V (.agg #[.int .i64 o_.States, .int .i64 o_.Kinds, .int .i64 o_.Init, .slice a1 o_.Rows.length c1])), (58, V (.slice a2 l_.length c2)), (60, V (.slice a3 x_.Picks.length c3))], [(4, (24, [I o_.States, I o_.Kinds, I o_.Init, V (.slice a1 o_.Rows.length c1)])), (6, (28, [V (.slice a3 x_.Picks.length c3), I x_.State, I x_.Kind, I x_.Result]))]⟩) (by kernel_rfl) ?_
      intro a hS
      obtain ⟨hq, hm⟩ := hm
      refine op1 (call hS (by kernel_rfl) (by kernel_rfl) hb14 (by kernel_rfl) (fun _ _ => rfl) (k14 _ _ o_ l_ x_.Picks a1 c1 a2 c2 a3 c3 hq h114 h109 h115) ?_)
      intro v125 a w126 χ127 hE hp hS
      clear hq
      replace hO := hO.mv hE rfl rfl
      replace h109 := h109.mv hE rfl
      replace h114 := h114.mv hE rfl
      replace h115 := h115.mv hE rfl
      replace h117 := h117.mv hE rfl
      replace h124 := h124.mv hE rfl
      clear hE
      obtain ⟨r128, hr⟩ : ∃ r, run_Picks o_ l_ x_.Picks = r := ⟨_, rfl⟩
      replace hm := hm r128 hr
      rw [hr] at hp
      clear hr
      subst hp
      refine endP T hS (sp := []) (ks := [1, 3, 5, 7, 9, 10, 13]) (bs := [4, 6]) (sy' := ⟨[(1, V (.slice a2 l_.length c2)), (3, Pt 4 0), (5, Pt 6 0), (7, V (.slice a111 order_110.length c112)), (9, V (.slice a122 r121.1.length c123)), (10, I r121.2), (13, I r128.2.2)], [(4, (24, [I o_.States, I o_.Kinds, I o_.Init, V (.slice a1 o_.Rows.length c1)])), (6, (28, [V (.slice a3 x_.Picks.length c3), I x_.State, I x_.Kind, I x_.Result]))]⟩) (by kernel_rfl) ?_
      intro a hS
      refine wseq ?_
      refine wcut (fun a w => ∃ (ρ : Nat → Nat) (χ : Nat → Nat) (x_132 : Bool), VC6_J2 o_ l_ Q order_110 r121 x_132 ∧ St Try.f6.ntmps ⟨[(1, V (.slice a2 l_.length c2)), (3, Pt 4 0), (7, V (.slice a111 order_110.length c112)), (9, V (.slice a122 r121.1.length c123)), (10, I r121.2), (77, B x_132)], [(4, (24, [I o_.States, I o_.Kinds, I o_.Init, V (.slice a1 o_.Rows.length c1)]))]⟩ ρ a w χ ∧ Old w0 χ0 w χ ∧ RS tApi_Oper w χ a2 l_ c2 ∧ RS tI w χ a111 order_110 c112 ∧ RS tApi_Pick w χ a122 r121.1 c123 ∧ RS tApi_Row w χ a1 o_.Rows c1) ?_ ?_
      · refine region ?_
        refine opsP T hS 3 (sp := []) (ks := [1, 3, 5, 7, 9, 10, 67]) (bs := [4, 6]) (sy' := ⟨[(1, V (.slice a2 l_.length c2)), (3, Pt 4 0), (5, Pt 6 0), (7, V (.slice a111 order_110.length c112)), (9, V (.slice a122 r121.1.length c123)), (10, I r121.2), (67, B (r128.2.2 == 0))], [(4, (24, [I o_.States, I o_.Kinds, I o_.Init, V (.slice a1 o_.Rows.length c1)])), (6, (28, [V (.slice a3 x_.Picks.length c3), I x_.State, I x_.Kind, I x_.Result]))]⟩) (by kernel_rfl) ?_
        intro a hS
        rcases Bool.eq_false_or_eq_true (r128.2.2 == 0) with hb | hb
        · replace hS := hS.lit (t := 67) (by kernel_rfl) hb
          replace hm := hm.1 hb
          refine opsP T hS 3 (sp := []) (ks := [1, 3, 5, 7, 9, 10, 67, 70]) (bs := [4, 6]) (sy' := ⟨[(1, V (.slice a2 l_.length c2)), (3, Pt 4 0), (5, Pt 6 0), (7, V (.slice a111 order_110.length c112)), (9, V (.slice a122 r121.1.length c123)), (10, I r121.2), (67, B true), (70, B (r121.2 != 0))], [(4, (24, [I o_.States, I o_.Kinds, I o_.Init, V (.slice a1 o_.Rows.length c1)])), (6, (28, [V (.slice a3 x_.Picks.length c3), I x_.State, I x_.Kind, I x_.Result]))]⟩) (by kernel_rfl) ?_
          intro a hS
          rcases Bool.eq_false_or_eq_true (r121.2 != 0) with hb | hb
          · replace hS := hS.lit (t := 70) (by kernel_rfl) hb
            replace hm := hm.1 hb
            refine endP T hS (sp := []) (ks := [1, 3, 7, 9, 10, 77]) (bs := [4]) (sy' := ⟨[(1, V (.slice a2 l_.length c2)), (3, Pt 4 0), (7, V (.slice a111 order_110.length c112)), (9, V (.slice a122 r121.1.length c123)), (10, I r121.2), (77, B true)], [(4, (24, [I o_.States, I o_.Kinds, I o_.Init, V (.slice a1 o_.Rows.length c1)]))]⟩) (by kernel_rfl) ?_
            intro a hS
            exact ⟨ρ, _, true, hm, hS.sel [1, 3, 7, 9, 10, 77] [4] (by kernel_rfl), hO, h109, h117, h124, h114⟩
          · replace hS := hS.lit (t := 70) (by kernel_rfl) hb
            replace hm := hm.2 hb
            refine opsP T hS 3 (sp := []) (ks := [1, 3, 7, 9, 10, 67, 70, 71, 73]) (bs := [4]) (sy' := ⟨[(1, V (.slice a2 l_.length c2)), (3, Pt 4 0), (7, V (.slice a111 order_110.length c112)), (9, V (.slice a122 r121.1.length c123)), (10, I r121.2), (67, B true), (70, B false), (71, V (.slice a122 r121.1.length c123)), (73, V (.slice a3 x_.Picks.length c3))], [(4, (24, [I o_.States, I o_.Kinds, I o_.Init, V (.slice a1 o_.Rows.length c1)]))]⟩) (by kernel_rfl) ?_
            intro a hS
            refine op1 (call hS (by kernel_rfl) (by kernel_rfl) hb24 (by kernel_rfl) (fun _ _ => rfl) (k24 _ _ r121.1 x_.Picks a122 c123 a3 c3 h124 h115) ?_)
            intro v162 a w163 χ164 hE hp hS
            replace hO := hO.mv hE rfl rfl
            replace h109 := h109.mv hE rfl
            replace h114 := h114.mv hE rfl
            replace h115 := h115.mv hE rfl
            replace h117 := h117.mv hE rfl
            replace h124 := h124.mv hE rfl
            clear hE
            obtain ⟨r165, hr⟩ : ∃ r, ref28_Same r121.1 x_.Picks = r := ⟨_, rfl⟩
            replace hm := hm r165 hr
            rw [hr] at hp
            clear hr
            subst hp
            refine endP T hS (sp := []) (ks := [1, 3, 7, 9, 10, 77]) (bs := [4]) (sy' := ⟨[(1, V (.slice a2 l_.length c2)), (3, Pt 4 0), (7, V (.slice a111 order_110.length c112)), (9, V (.slice a122 r121.1.length c123)), (10, I r121.2), (77, B (!r165))], [(4, (24, [I o_.States, I o_.Kinds, I o_.Init, V (.slice a1 o_.Rows.length c1)]))]⟩) (by kernel_rfl) ?_
            intro a hS
            exact ⟨ρ, _, (!r165), hm, hS.sel [1, 3, 7, 9, 10, 77] [4] (by kernel_rfl), hO, h109, h117, h124, h114⟩
        · replace hS := hS.lit (t := 67) (by kernel_rfl) hb
          replace hm := hm.2 hb
          refine endP T hS (sp := []) (ks := [1, 3, 7, 9, 10, 77]) (bs := [4]) (sy' := ⟨[(1, V (.slice a2 l_.length c2)), (3, Pt 4 0), (7, V (.slice a111 order_110.length c112)), (9, V (.slice a122 r121.1.length c123)), (10, I r121.2), (77, B false)], [(4, (24, [I o_.States, I o_.Kinds, I o_.Init, V (.slice a1 o_.Rows.length c1)]))]⟩) (by kernel_rfl) ?_
          intro a hS
          exact ⟨ρ, _, false, hm, hS.sel [1, 3, 7, 9, 10, 77] [4] (by kernel_rfl), hO, h109, h117, h124, h114⟩
      · rintro a w167 ⟨ρ, χ166, x_132, hm, hS, hO, h129, h130, h131, h133⟩
        unfold VC6_J2 at hm
        refine wcond hS (b := x_132) (by kernel_rfl) (fun hb => ?_) (fun hb => ?_)
        · replace hm := hm.1 hb
          refine regP T hS (sp := []) (ks := [6]) (bs := []) (sy' := ⟨[(6, B false)], []⟩) (by kernel_rfl) ?_
          intro a hS
          refine wret ?_
          exact fin T hS hO (fun c => c) rfl (r := [.bool false]) (by kernel_rfl) (fun χ' hM hC => ⟨false, hm, rfl⟩)
        · replace hm := hm.2 hb
          refine wskip ?_
          refine wseq ?_
          refine regP T hS (sp := []) (ks := [1, 3, 7, 9, 79]) (bs := [4]) (sy' := ⟨[(1, V (.slice a2 l_.length c2)), (3, Pt 4 0), (7, V (.slice a111 order_110.length c112)), (9, V (.slice a122 r121.1.length c123)), (79, B (r121.2 != 0))], [(4, (24, [I o_.States, I o_.Kinds, I o_.Init, V (.slice a1 o_.Rows.length c1)]))]⟩) (by kernel_rfl) ?_
          intro a hS
          refine wcond hS (b := (r121.2 != 0)) (by kernel_rfl) (fun hb => ?_) (fun hb => ?_)
          · replace hm := hm.1 hb
            refine regO ?_
            refine opsP T hS 4 (sp := []) (ks := [83]) (bs := []) (sy' := ⟨[(83, B (((r121.1.length : Nat) : Int) == 0))], []⟩) (by kernel_rfl) ?_
            intro a hS
            rcases Bool.eq_false_or_eq_true (((r121.1.length : Nat) : Int) == 0) with hb | hb
            · replace hS := hS.lit (t := 83) (by kernel_rfl) hb
              replace hm := hm.1 hb
              refine op1 (call hS (by kernel_rfl) (by kernel_rfl) hb13 (by kernel_rfl) (fun _ _ => rfl) (k13 _ _) ?_)
              intro v134 a w135 χ136 hE hp hS
              replace hO := hO.mv hE rfl rfl
              clear hE
              obtain ⟨r137, hr⟩ : ∃ r, law28_awake = r := ⟨_, rfl⟩
              replace hm := hm r137 hr
              rw [hr] at hp
              clear hr
              subst hp
              refine endP T hS (sp := []) (ks := [6]) (bs := []) (sy' := ⟨[(6, B r137)], []⟩) (by kernel_rfl) ?_
              intro a hS
              refine wret ?_
              exact fin T hS hO (fun c => c) rfl (r := [.bool r137]) (by kernel_rfl) (fun χ' hM hC => ⟨r137, hm, rfl⟩)
            · replace hS := hS.lit (t := 83) (by kernel_rfl) hb
              replace hm := hm.2 hb
              refine endP T hS (sp := []) (ks := [6]) (bs := []) (sy' := ⟨[(6, B false)], []⟩) (by kernel_rfl) ?_
              intro a hS
              refine wret ?_
              exact fin T hS hO (fun c => c) rfl (r := [.bool false]) (by kernel_rfl) (fun χ' hM hC => ⟨false, hm, rfl⟩)
          · replace hm := hm.2 hb
            refine wskip ?_
            refine regO ?_
            refine opsP T hS 3 (sp := []) (ks := [7, 9, 87, 88, 89]) (bs := []) (sy' := ⟨[(7, V (.slice a111 order_110.length c112)), (9, V (.slice a122 r121.1.length c123)), (87, V (.agg #[.int .i64 o_.States, .int .i64 o_.Kinds, .int .i64 o_.Init, .slice a1 o_.Rows.length c1])), (88, V (.slice a2 l_.length c2)), (89, V (.slice a122 r121.1.length c123))], []⟩) (by kernel_rfl) ?_
            intro a hS
            obtain ⟨hq, hm⟩ := hm
            refine op1 (call hS (by kernel_rfl) (by kernel_rfl) hb14 (by kernel_rfl) (fun _ _ => rfl) (k14 _ _ o_ l_ r121.1 a1 c1 a2 c2 a122 c123 hq h133 h129 h131) ?_)
            intro v138 a w139 χ140 hE hp hS
            clear hq
            replace hO := hO.mv hE rfl rfl
            replace h129 := h129.mv hE rfl
            replace h130 := h130.mv hE rfl
            replace h131 := h131.mv hE rfl
            replace h133 := h133.mv hE rfl
            clear hE
            obtain ⟨r141, hr⟩ : ∃ r, run_Picks o_ l_ r121.1 = r := ⟨_, rfl⟩
            replace hm := hm r141 hr
            rw [hr] at hp
            clear hr
            subst hp
            refine endP T hS (sp := []) (ks := [7, 9, 15, 16]) (bs := []) (sy' := ⟨[(7, V (.slice a111 order_110.length c112)), (9, V (.slice a122 r121.1.length c123)), (15, I r141.2.1), (16, I r141.2.2)], []⟩) (by kernel_rfl) ?_
            intro a hS
            refine wseq ?_
            refine regP T hS (sp := [96, 102]) (ks := [7, 9, 108]) (bs := []) (sy' := ⟨[(7, V (.slice a111 order_110.length c112)), (9, V (.slice a122 r121.1.length c123)), (108, B (((r141.2.2 != 0) || (r141.2.1 != ((order_110.length : Nat) : Int))) || (((r121.1.length : Nat) : Int) != ((order_110.length : Nat) : Int))))], []⟩) (by kernel_rfl) ?_
            intro a hS
            refine wcond hS (b := (((r141.2.2 != 0) || (r141.2.1 != ((order_110.length : Nat) : Int))) || (((r121.1.length : Nat) : Int) != ((order_110.length : Nat) : Int)))) (by kernel_rfl) (fun hb => ?_) (fun hb => ?_)
            · replace hm := hm.1 hb
              refine regP T hS (sp := []) (ks := [6]) (bs := []) (sy' := ⟨[(6, B false)], []⟩) (by kernel_rfl) ?_
              intro a hS
              refine wret ?_
              exact fin T hS hO (fun c => c) rfl (r := [.bool false]) (by kernel_rfl) (fun χ' hM hC => ⟨false, hm, rfl⟩)
            · replace hm := hm.2 hb
              refine wskip ?_
              refine wcut (fun a w => ∃ (ρ : Nat → Nat) (χ : Nat → Nat), VC6_J3 Q ∧ St Try.f6.ntmps ⟨[], []⟩ ρ a w χ ∧ Old w0 χ0 w χ) ?_ ?_
              · refine regP T hS (sp := []) (ks := [7, 9, 17]) (bs := []) (sy' := ⟨[(7, V (.slice a111 order_110.length c112)), (9, V (.slice a122 r121.1.length c123)), (17, I 0)], []⟩) (by kernel_rfl) ?_
                intro a hS
                refine wblock ?_
                obtain ⟨I1, μ1, hm0, hm⟩ := hm
                refine wloop (σ := Int) (fun s a w => ∃ (ρ : Nat → Nat) (χ : Nat → Nat), I1 s ∧ St Try.f6.ntmps ⟨[(7, V (.slice a111 order_110.length c112)), (9, V (.slice a122 r121.1.length c123)), (17, I s)], []⟩ ρ a w χ ∧ Old w0 χ0 w χ ∧ RS tI w χ a111 order_110 c112 ∧ RS tApi_Pick w χ a122 r121.1 c123) (fun s => μ1 s) (0) ?_ ?_
                · exact ⟨ρ, _, hm0, hS.sel [7, 9, 17] [] (by kernel_rfl), hO, h130, h131⟩
                · rintro i_148 a w159 ⟨ρ, χ158, hI, hS, hO, h146, h147⟩
                  replace hm := hm i_148 hI
                  clear hI hm0
                  refine wseq ?_
                  refine regP T hS (sp := []) (ks := [7, 9, 17, 112]) (bs := []) (sy' := ⟨[(7, V (.slice a111 order_110.length c112)), (9, V (.slice a122 r121.1.length c123)), (17, I i_148), (112, B (decide (i_148 < ((r121.1.length : Nat) : Int))))], []⟩) (by kernel_rfl) ?_
                  intro a hS
                  refine wcond hS (b := decide (i_148 < ((r121.1.length : Nat) : Int))) (by kernel_rfl) (fun hb => ?_) (fun hb => ?_)
                  · replace hm := hm.1 hb
                    refine wskip ?_
                    refine wseq ?_
                    refine wblock ?_
                    refine drawnS [] mixed hS ?_
                    intro w149 hS hE hD hH
                    replace hO := hO.mv hE rfl rfl
                    replace h146 := h146.mv hE rfl
                    replace h147 := h147.mv hE rfl
                    clear hE
                    refine take T [0, 1, 5, 6] [] [7, 9, 17, 115, 116, 120, 121] hS (by kernel_rfl) (by kernel_rfl) (by kernel_rfl) hH (listed' := #[true, true, false, false, false, true, true, false, false, false]) (fuel := 6) (sy' := ⟨[(7, V (.slice a111 order_110.length c112)), (9, V (.slice a122 r121.1.length c123)), (17, I i_148), (115, V (.slice a122 r121.1.length c123)), (116, I i_148), (120, V (.slice a111 order_110.length c112)), (121, I i_148)], []⟩) (by kernel_rfl) (by rfl) ?_
                    intro a hS
                    obtain ⟨hq, hm⟩ := hm
                    refine dindex (e := 52) (k := .i64) T 2 hS (by kernel_rfl) (by kernel_rfl) (by kernel_rfl) (by rfl) (by kernel_rfl) hH (by kernel_rfl) (by kernel_rfl) h147 (by kernel_rfl) (by kernel_rfl) hq.1 hq.2 ?_
                    intro A150 a h151 hS
                    clear hq
                    have h151b := h151.here
                    refine dfieldA (off := 0) (fsz := 1) (ft := 3) (TF := tI) (y := (gi r121.1 i_148).Oper) 3 T hS (by kernel_rfl) (by kernel_rfl) (by kernel_rfl) (by rfl) (by kernel_rfl) hH (by kernel_rfl) h151 (by kernel_rfl) (by kernel_rfl) (by kernel_rfl) (fun cs h => Api_Pick_f0 h) ?_
                    intro A152 a h153 hbl hS
                    have h153b := h151b
                    rw [← hbl] at h153b
                    clear hbl
                    refine dload1 T 4 hS (by kernel_rfl) (by kernel_rfl) (by kernel_rfl) (by rfl) (by kernel_rfl) hH (by kernel_rfl) h153 h153b rfl (by kernel_rfl) ?_
                    intro v154 a hv hS
                    cases hv
                    obtain ⟨hq, hm⟩ := hm
                    refine dindex (e := 3) (k := .i64) T 7 hS (by kernel_rfl) (by kernel_rfl) (by kernel_rfl) (by rfl) (by kernel_rfl) hH (by kernel_rfl) (by kernel_rfl) h146 (by kernel_rfl) (by kernel_rfl) hq.1 hq.2 ?_
                    intro A155 a h156 hS
                    clear hq
                    have h156b := h156.here
                    refine dload1 T 8 hS (by kernel_rfl) (by kernel_rfl) (by kernel_rfl) (by rfl) (by kernel_rfl) hH (by kernel_rfl) h156 h156b rfl (by kernel_rfl) ?_
                    intro v157 a hv hS
                    cases hv
                    refine take T [9] [] [7, 9, 17, 124] hS (by kernel_rfl) (by kernel_rfl) (by kernel_rfl) hH (listed' := #[true, true, true, true, true, true, true, true, true, true]) (fuel := 0) (sy' := ⟨[(7, V (.slice a111 order_110.length c112)), (9, V (.slice a122 r121.1.length c123)), (17, I i_148), (124, B (((gi r121.1 i_148).Oper) != (gi order_110 i_148)))], []⟩) (by kernel_rfl) (by rfl) ?_
                    intro a hS
                    refine drawnDone (by kernel_rfl) ?_
                    clear hD hH
                    replace hS := hS.sel [7, 9, 17, 124] [] (sy' := ⟨[(7, V (.slice a111 order_110.length c112)), (9, V (.slice a122 r121.1.length c123)), (17, I i_148), (124, B (((gi r121.1 i_148).Oper) != (gi order_110 i_148)))], []⟩) (by kernel_rfl)
                    refine wcond hS (b := (((gi r121.1 i_148).Oper) != (gi order_110 i_148))) (by kernel_rfl) (fun hb => ?_) (fun hb => ?_)
                    · replace hm := hm.1 hb
                      refine regP T hS (sp := []) (ks := [6]) (bs := []) (sy' := ⟨[(6, B false)], []⟩) (by kernel_rfl) ?_
                      intro a hS
                      refine wret ?_
                      exact fin T hS hO (fun c => c) rfl (r := [.bool false]) (by kernel_rfl) (fun χ' hM hC => ⟨false, hm, rfl⟩)
                    · replace hm := hm.2 hb
                      refine wskip ?_
                      refine region (endP T hS (sp := []) (ks := [7, 9, 17]) (bs := []) (sy' := ⟨[(7, V (.slice a111 order_110.length c112)), (9, V (.slice a122 r121.1.length c123)), (17, I (IntKind.i64.wrap (i_148 + 1)))], []⟩) (by kernel_rfl) ?_)
                      intro a hS
                      exact ⟨IntKind.i64.wrap (i_148 + 1), ⟨ρ, _, hm.1, hS.sel [7, 9, 17] [] (by kernel_rfl), hO, h146, h147⟩, hm.2⟩
                  · replace hm := hm.2 hb
                    refine wexit (by rfl) ?_
                    exact ⟨ρ, _, hm, hS.sel [] [] (by kernel_rfl), hO⟩
              · rintro a w161 ⟨ρ, χ160, hm, hS, hO⟩
                unfold VC6_J3 at hm
                refine regO ?_
                refine op1 (call hS (by kernel_rfl) (by kernel_rfl) hb13 (by kernel_rfl) (fun _ _ => rfl) (k13 _ _) ?_)
                intro v142 a w143 χ144 hE hp hS
                replace hO := hO.mv hE rfl rfl
                clear hE
                obtain ⟨r145, hr⟩ : ∃ r, law28_awake = r := ⟨_, rfl⟩
                replace hm := hm r145 hr
                rw [hr] at hp
                clear hr
                subst hp
                refine endP T hS (sp := []) (ks := [6]) (bs := []) (sy' := ⟨[(6, B r145)], []⟩) (by kernel_rfl) ?_
                intro a hS
                refine wret ?_
                exact fin T hS hO (fun c => c) rfl (r := [.bool r145]) (by kernel_rfl) (fun χ' hM hC => ⟨r145, hm, rfl⟩)
end Go.Proofs.Ytnhdgebboafliaa
