/- Walks: each function returns what its condition asks. Condition: the contracts of its callees, handed in. -/
import Derived.Test.YtnhdgebboafliaaWWalks
set_option linter.all false
namespace Go.Proofs.Ytnhdgebboafliaa
open Go Go.Sv
set_option maxHeartbeats 1000000
def S32 : Prop := ∀ (w : World) (χ : Nat → Nat) (l_ : List Api_Oper) (a1 : Option Addr) (c1 : Nat), RS tApi_Oper w χ a1 l_ c1 → Ret Try.prog 32 #[.slice a1 l_.length c1] xnone w χ (fun w χ' v => v = .tuple #[.int .i64 ((oper_Check l_).1), .int .i64 ((oper_Check l_).2)])
theorem hb32 : hasBody Try.prog 32 = true := by kernel_rfl
/-- replevin/oper.Check -/
theorem W32 (k53 : S53) (k56 : S56) (w0 : World) (χ0 : Nat → Nat) (l_ : List Api_Oper) (a1 : Option Addr) (c1 : Nat) (Q : Int × Int → Prop) (hm : VC32 l_ Q) (h1 : RS tApi_Oper w0 χ0 a1 l_ c1) :
    Ret Try.prog 32 #[.slice a1 l_.length c1] xnone w0 χ0 (fun w χ' v => ∃ r, Q r ∧ v = .tuple #[.int .i64 r.1, .int .i64 r.2]) := by
  unfold VC32 at hm
  replace hm := hm (h1.sm (by kernel_rfl))
  refine enter Try.func32 rfl (vals := [.slice a1 l_.length c1]) (by kernel_rfl) ?_
  intro ρ a hS hO hM
  replace h1 := h1.m0 hM
  clear hM
  refine regP T hS (sp := []) (ks := [0]) (bs := []) (sy' := ⟨[(0, V (.slice a1 l_.length c1))], []⟩) (by kernel_rfl) ?_
  intro a hS
  refine wseq ?_
  refine regP T hS (sp := []) (ks := [0, 13]) (bs := []) (sy' := ⟨[(0, V (.slice a1 l_.length c1)), (13, B (decide (((l_.length : Nat) : Int) > 5000)))], []⟩) (by kernel_rfl) ?_
  intro a hS
  refine wcond hS (b := decide (((l_.length : Nat) : Int) > 5000)) (by kernel_rfl) (fun hb => ?_) (fun hb => ?_)
  · replace hm := hm.1 hb
    refine regP T hS (sp := []) (ks := [2, 3]) (bs := []) (sy' := ⟨[(2, I 0), (3, I 3)], []⟩) (by kernel_rfl) ?_
    intro a hS
    refine wret ?_
    exact fin T hS hO (fun c => c) rfl (r := [.int .i64 0, .int .i64 3]) (by kernel_rfl) (fun χ' hM hC => ⟨(0, 3), hm, rfl⟩)
  · replace hm := hm.2 hb
    refine wskip ?_
    refine regO ?_
    refine op1 (mkmap kI tI false 1015 hS (by kernel_rfl) (by kernel_rfl) ?_)
    intro r101 a w102 χ103 hE h104 hS
    replace hO := hO.mv hE rfl rfl
    replace h1 := h1.mv hE rfl
    clear hE
    refine endP T hS (sp := []) (ks := [0, 4]) (bs := []) (sy' := ⟨[(0, V (.slice a1 l_.length c1)), (4, V (.map (some r101)))], []⟩) (by kernel_rfl) ?_
    intro a hS
    refine regO ?_
    refine op1 (mkmap kI tApi_Oper true 1016 hS (by kernel_rfl) (by kernel_rfl) ?_)
    intro r105 a w106 χ107 hE h108 hS
    replace hO := hO.mv hE rfl rfl
    replace h1 := h1.mv hE rfl
    replace h104 := h104.mv hE rfl rfl
    clear hE
    refine endP T hS (sp := []) (ks := [0, 4, 5]) (bs := []) (sy' := ⟨[(0, V (.slice a1 l_.length c1)), (4, V (.map (some r101))), (5, V (.map (some r105)))], []⟩) (by kernel_rfl) ?_
    intro a hS
    refine wcut (fun a w => ∃ (ρ : Nat → Nat) (χ : Nat → Nat), VC32_J1 l_ Q ∧ St Try.f32.ntmps ⟨[(0, V (.slice a1 l_.length c1))], []⟩ ρ a w χ ∧ Old w0 χ0 w χ ∧ RS tApi_Oper w χ a1 l_ c1) ?_ ?_
    · refine regP T hS (sp := []) (ks := [0, 4, 5, 16, 17, 18]) (bs := []) (sy' := ⟨[(0, V (.slice a1 l_.length c1)), (4, V (.map (some r101))), (5, V (.map (some r105))), (16, V (.slice a1 l_.length c1)), (17, I ((l_.length : Nat) : Int)), (18, I 0)], []⟩) (by kernel_rfl) ?_
      intro a hS
      refine wblock ?_
      obtain ⟨I1, μ1, hm0, hm⟩ := hm
      refine wloop (σ := (List (Int × Int)) × (List (Int × Api_Oper)) × Int) (fun s a w => ∃ (ρ : Nat → Nat) (χ : Nat → Nat), I1 s.1 s.2.1 s.2.2 ∧ St Try.f32.ntmps ⟨[(0, V (.slice a1 l_.length c1)), (4, V (.map (some r101))), (5, V (.map (some r105))), (16, V (.slice a1 l_.length c1)), (17, I ((l_.length : Nat) : Int)), (18, I s.2.2)], []⟩ ρ a w χ ∧ Old w0 χ0 w χ ∧ RS tApi_Oper w χ a1 l_ c1 ∧ OM kI tI false w χ 1015 r101 s.1 ∧ OM kI tApi_Oper true w χ 1016 r105 s.2.1 ∧ RS tApi_Oper w χ a1 l_ c1) (fun s => μ1 s.1 s.2.1 s.2.2) (⟨([] : List (Int × Int)), ([] : List (Int × Api_Oper)), 0⟩) ?_ ?_
      · exact ⟨ρ, _, hm0, hS.sel [0, 4, 5, 16, 17, 18] [] (by kernel_rfl), hO, h1, h104, h108, h1⟩
      · rintro ⟨used_111, latest_113, x_116⟩ a w174 ⟨ρ, χ173, hI, hS, hO, h110, h112, h114, h115⟩
        replace hm := hm used_111 latest_113 x_116 hI
        clear hI hm0
        refine regP T hS (sp := []) (ks := [0, 4, 5, 16, 17, 18, 19]) (bs := []) (sy' := ⟨[(0, V (.slice a1 l_.length c1)), (4, V (.map (some r101))), (5, V (.map (some r105))), (16, V (.slice a1 l_.length c1)), (17, I ((l_.length : Nat) : Int)), (18, I x_116), (19, B (decide (x_116 < ((l_.length : Nat) : Int))))], []⟩) (by kernel_rfl) ?_
        intro a hS
        refine wseq ?_
        refine wcond hS (b := decide (x_116 < ((l_.length : Nat) : Int))) (by kernel_rfl) (fun hb => ?_) (fun hb => ?_)
        · replace hm := hm.1 hb
          refine wskip ?_
          refine wcut (fun a w => ∃ (ρ : Nat → Nat) (χ : Nat → Nat) (used_118 : List (Int × Int)), VC32_J2 l_ I1 μ1 used_111 latest_113 x_116 used_118 ∧ St Try.f32.ntmps ⟨[(0, V (.slice a1 l_.length c1)), (4, V (.map (some r101))), (5, V (.map (some r105))), (16, V (.slice a1 l_.length c1)), (17, I ((l_.length : Nat) : Int)), (18, I x_116)], []⟩ ρ a w χ ∧ Old w0 χ0 w χ ∧ RS tApi_Oper w χ a1 l_ c1 ∧ OM kI tI false w χ 1015 r101 used_118 ∧ OM kI tApi_Oper true w χ 1016 r105 (mput latest_113 ((gi l_ x_116).Prc) (gi l_ x_116)) ∧ RS tApi_Oper w χ a1 l_ c1) ?_ ?_
          · refine wblock ?_
            refine regO ?_
            refine opsP T hS 1 (sp := []) (ks := [0, 4, 5, 16, 17, 18, 20]) (bs := []) (sy' := ⟨[(0, V (.slice a1 l_.length c1)), (4, V (.map (some r101))), (5, V (.map (some r105))), (16, V (.slice a1 l_.length c1)), (17, I ((l_.length : Nat) : Int)), (18, I x_116), (20, I x_116)], []⟩) (by kernel_rfl) ?_
            intro a hS
            obtain ⟨hq, hm⟩ := hm
            refine op1 (index (e := 54) (k := .i64) T hS (by kernel_rfl) (by kernel_rfl) (by kernel_rfl) (by kernel_rfl) h115 (by kernel_rfl) (by kernel_rfl) hq.1 hq.2 ?_)
            intro A122 a h123 hS
            clear hq
            refine op1 (loadA T hS (by kernel_rfl) (by kernel_rfl) (by kernel_rfl) h123 (by kernel_rfl) (by kernel_rfl) ?_)
            intro v124 a hv hS
            subst hv
            refine endM T hS (sp := []) (ks := [0, 4, 5, 6, 7, 16, 17, 18]) (bs := [8]) (sy' := ⟨[(0, V (.slice a1 l_.length c1)), (4, V (.map (some r101))), (5, V (.map (some r105))), (6, I x_116), (7, Pt 8 0), (16, V (.slice a1 l_.length c1)), (17, I ((l_.length : Nat) : Int)), (18, I x_116)], [(8, (54, [I ((gi l_ x_116).Prc), I ((gi l_ x_116).Kind), I ((gi l_ x_116).Start), I ((gi l_ x_116).End), I ((gi l_ x_116).Result)]))]⟩) (by kernel_rfl) ?_
            intro ρ a w169 χ170 hS hE hr
            replace hO := hO.mv hE rfl rfl
            replace h110 := h110.mv hE rfl
            replace h112 := h112.mv hE rfl rfl
            replace h114 := h114.mv hE rfl rfl
            replace h115 := h115.mv hE rfl
            clear hE hr
            refine wseq ?_
            refine regO ?_
            refine opsP T hS 1 (sp := []) (ks := [0, 4, 5, 6, 7, 16, 17, 18, 23]) (bs := [8]) (sy' := ⟨[(0, V (.slice a1 l_.length c1)), (4, V (.map (some r101))), (5, V (.map (some r105))), (6, I x_116), (7, Pt 8 0), (16, V (.slice a1 l_.length c1)), (17, I ((l_.length : Nat) : Int)), (18, I x_116), (23, V (.agg #[.int .i64 ((gi l_ x_116).Prc), .int .i64 ((gi l_ x_116).Kind), .int .i64 ((gi l_ x_116).Start), .int .i64 ((gi l_ x_116).End), .int .i64 ((gi l_ x_116).Result)]))], [(8, (54, [I ((gi l_ x_116).Prc), I ((gi l_ x_116).Kind), I ((gi l_ x_116).Start), I ((gi l_ x_116).End), I ((gi l_ x_116).Result)]))]⟩) (by kernel_rfl) ?_
            intro a hS
            refine op1 (call hS (by kernel_rfl) (by kernel_rfl) hb56 (by kernel_rfl) (fun _ _ => rfl) (k56 _ _ (gi l_ x_116)) ?_)
            intro v125 a w126 χ127 hE hp hS
            replace hO := hO.mv hE rfl rfl
            replace h110 := h110.mv hE rfl
            replace h112 := h112.mv hE rfl rfl
            replace h114 := h114.mv hE rfl rfl
            replace h115 := h115.mv hE rfl
            clear hE
            obtain ⟨r128, hr⟩ : ∃ r, oper_alone (gi l_ x_116) = r := ⟨_, rfl⟩
            replace hm := hm r128 hr
            rw [hr] at hp
            clear hr
            subst hp
            refine endP T hS (sp := []) (ks := [0, 4, 5, 6, 7, 8, 16, 17, 18]) (bs := [8]) (sy' := ⟨[(0, V (.slice a1 l_.length c1)), (4, V (.map (some r101))), (5, V (.map (some r105))), (6, I x_116), (7, Pt 8 0), (8, I r128), (16, V (.slice a1 l_.length c1)), (17, I ((l_.length : Nat) : Int)), (18, I x_116)], [(8, (54, [I ((gi l_ x_116).Prc), I ((gi l_ x_116).Kind), I ((gi l_ x_116).Start), I ((gi l_ x_116).End), I ((gi l_ x_116).Result)]))]⟩) (by kernel_rfl) ?_
            intro a hS
            refine regP T hS (sp := []) (ks := [0, 4, 5, 6, 7, 8, 16, 17, 18, 26]) (bs := [8]) (sy' := ⟨[(0, V (.slice a1 l_.length c1)), (4, V (.map (some r101))), (5, V (.map (some r105))), (6, I x_116), (7, Pt 8 0), (8, I r128), (16, V (.slice a1 l_.length c1)), (17, I ((l_.length : Nat) : Int)), (18, I x_116), (26, B (r128 != 0))], [(8, (54, [I ((gi l_ x_116).Prc), I ((gi l_ x_116).Kind), I ((gi l_ x_116).Start), I ((gi l_ x_116).End), I ((gi l_ x_116).Result)]))]⟩) (by kernel_rfl) ?_
            intro a hS
            refine wcond hS (b := (r128 != 0)) (by kernel_rfl) (fun hb => ?_) (fun hb => ?_)
            · replace hm := hm.1 hb
              refine regP T hS (sp := []) (ks := [2, 3]) (bs := []) (sy' := ⟨[(2, I x_116), (3, I r128)], []⟩) (by kernel_rfl) ?_
              intro a hS
              refine wret ?_
              exact fin T hS hO (fun c => c) rfl (r := [.int .i64 x_116, .int .i64 r128]) (by kernel_rfl) (fun χ' hM hC => ⟨(x_116, r128), hm, rfl⟩)
            · replace hm := hm.2 hb
              refine wskip ?_
              refine wseq ?_
              refine wcut (fun a w => ∃ (ρ : Nat → Nat) (χ : Nat → Nat) (x_133 : Bool), VC32_J3 l_ Q I1 μ1 used_111 latest_113 x_116 x_133 ∧ St Try.f32.ntmps ⟨[(0, V (.slice a1 l_.length c1)), (4, V (.map (some r101))), (5, V (.map (some r105))), (6, I x_116), (7, Pt 8 0), (16, V (.slice a1 l_.length c1)), (17, I ((l_.length : Nat) : Int)), (18, I x_116), (60, B x_133)], [(8, (54, [I ((gi l_ x_116).Prc), I ((gi l_ x_116).Kind), I ((gi l_ x_116).Start), I ((gi l_ x_116).End), I ((gi l_ x_116).Result)]))]⟩ ρ a w χ ∧ Old w0 χ0 w χ ∧ RS tApi_Oper w χ a1 l_ c1 ∧ OM kI tI false w χ 1015 r101 used_111 ∧ OM kI tApi_Oper true w χ 1016 r105 latest_113 ∧ RS tApi_Oper w χ a1 l_ c1) ?_ ?_
              · refine drawnX [8] mixed hS ?_
                intro w156 χ157 hS hE hD hH
                replace hO := hO.mv hE rfl rfl
                replace h110 := h110.mv hE rfl
                replace h112 := h112.mv hE rfl rfl
                replace h114 := h114.mv hE rfl rfl
                replace h115 := h115.mv hE rfl
                clear hE
                refine take T [0, 1, 2] [8] [0, 4, 5, 6, 7, 16, 17, 18, 31] hS (by kernel_rfl) (by kernel_rfl) (by kernel_rfl) hH (listed' := #[true, true, true, false, false, false, false, false, false, false, false, false, false, false, false, false, false, false, false, false, false, false, false, false, false, false, false, false, false, false, false, false]) (fuel := 29) (sy' := ⟨[(0, V (.slice a1 l_.length c1)), (4, V (.map (some r101))), (5, V (.map (some r105))), (6, I x_116), (7, Pt 8 0), (16, V (.slice a1 l_.length c1)), (17, I ((l_.length : Nat) : Int)), (18, I x_116), (31, B (decide (x_116 > 0)))], [(8, (54, [I ((gi l_ x_116).Prc), I ((gi l_ x_116).Kind), I ((gi l_ x_116).Start), I ((gi l_ x_116).End), I ((gi l_ x_116).Result)]))]⟩) (by as_aux_lemma => kernel_rfl) (by rfl) ?_
                intro a hS
                rcases Bool.eq_false_or_eq_true (decide (x_116 > 0)) with hb | hb
                · replace hS := hS.lit (t := 31) (by kernel_rfl) hb
                  replace hm := hm.1 hb
                  refine take T [3, 5, 6, 4, 7] [8] [0, 4, 5, 6, 7, 16, 17, 18, 31, 32, 33, 34, 35, 36] hS (by kernel_rfl) (by kernel_rfl) (by kernel_rfl) hH (listed' := #[true, true, true, true, true, true, true, true, false, false, false, false, false, false, false, false, false, false, false, false, false, false, false, false, false, false, false, false, false, false, false, false]) (fuel := 24) (sy' := ⟨[(0, V (.slice a1 l_.length c1)), (4, V (.map (some r101))), (5, V (.map (some r105))), (6, I x_116), (7, Pt 8 0), (16, V (.slice a1 l_.length c1)), (17, I ((l_.length : Nat) : Int)), (18, I x_116), (31, B true), (32, Pt 8 2), (33, I ((gi l_ x_116).Start)), (34, V (.slice a1 l_.length c1)), (35, I x_116), (36, I (IntKind.i64.wrap (x_116 - 1)))], [(8, (54, [I ((gi l_ x_116).Prc), I ((gi l_ x_116).Kind), I ((gi l_ x_116).Start), I ((gi l_ x_116).End), I ((gi l_ x_116).Result)]))]⟩) (by as_aux_lemma => kernel_rfl) (by rfl) ?_
                  intro a hS
                  obtain ⟨hq, hm⟩ := hm
                  refine dindex (e := 54) (k := .i64) T 8 hS (by kernel_rfl) (by kernel_rfl) (by kernel_rfl) (by rfl) (by kernel_rfl) hH (by kernel_rfl) (by kernel_rfl) h110 (by kernel_rfl) (by kernel_rfl) hq.1 hq.2 ?_
                  intro A158 a h159 hS
                  clear hq
                  have h159b := h159.here
                  refine dfieldA (off := 2) (fsz := 1) (ft := 3) (TF := tI) (y := (gi l_ (IntKind.i64.wrap (x_116 - 1))).Start) 9 T hS (by kernel_rfl) (by kernel_rfl) (by kernel_rfl) (by rfl) (by kernel_rfl) hH (by kernel_rfl) h159 (by kernel_rfl) (by kernel_rfl) (by kernel_rfl) (fun cs h => Api_Oper_f2 h) ?_
                  intro A160 a h161 hbl hS
                  have h161b := h159b
                  rw [← hbl] at h161b
                  clear hbl
                  refine dload1 T 10 hS (by kernel_rfl) (by kernel_rfl) (by kernel_rfl) (by rfl) (by kernel_rfl) hH (by kernel_rfl) h161 h161b rfl (by kernel_rfl) ?_
                  intro v162 a hv hS
                  cases hv
                  refine take T [11, 12, 13] [8] [0, 4, 5, 6, 7, 16, 17, 18, 32, 33, 34, 35, 36, 37, 38, 39, 40, 42] hS (by kernel_rfl) (by kernel_rfl) (by kernel_rfl) hH (listed' := #[true, true, true, true, true, true, true, true, true, true, true, true, true, true, false, false, false, false, false, false, false, false, false, false, false, false, false, false, false, false, false, false]) (fuel := 18) (sy' := ⟨[(0, V (.slice a1 l_.length c1)), (4, V (.map (some r101))), (5, V (.map (some r105))), (6, I x_116), (7, Pt 8 0), (16, V (.slice a1 l_.length c1)), (17, I ((l_.length : Nat) : Int)), (18, I x_116), (32, Pt 8 2), (33, I ((gi l_ x_116).Start)), (34, V (.slice a1 l_.length c1)), (35, I x_116), (36, I (IntKind.i64.wrap (x_116 - 1))), (37, V (.pointer (some A158))), (38, V (.pointer (some A160))), (39, I ((gi l_ (IntKind.i64.wrap (x_116 - 1))).Start)), (40, B (decide (((gi l_ x_116).Start) ≤ ((gi l_ (IntKind.i64.wrap (x_116 - 1))).Start)))), (42, B (decide (((gi l_ x_116).Start) ≤ ((gi l_ (IntKind.i64.wrap (x_116 - 1))).Start))))], [(8, (54, [I ((gi l_ x_116).Prc), I ((gi l_ x_116).Kind), I ((gi l_ x_116).Start), I ((gi l_ x_116).End), I ((gi l_ x_116).Result)]))]⟩) (by as_aux_lemma => kernel_rfl) (by rfl) ?_
                  intro a hS
                  rcases Bool.eq_false_or_eq_true (decide (((gi l_ x_116).Start) ≤ ((gi l_ (IntKind.i64.wrap (x_116 - 1))).Start))) with hb | hb
                  · replace hS := hS.lit (t := 42) (by kernel_rfl) hb
                    replace hm := hm.1 hb
                    refine take T [14, 15, 16, 17, 18, 19, 20, 21, 22, 23, 24, 25, 26, 27, 28, 29, 30, 31] [8] [0, 4, 5, 6, 7, 16, 17, 18, 32, 33, 34, 35, 36, 37, 38, 39, 40, 43, 44, 45, 46, 47, 50, 51, 52, 53, 54, 55, 56, 57, 58, 59, 60] hS (by kernel_rfl) (by kernel_rfl) (by kernel_rfl) hH (listed' := #[true, true, true, true, true, true, true, true, true, true, true, true, true, true, true, true, true, true, true, true, true, true, true, true, true, true, true, true, true, true, true, true]) (fuel := 0) (sy' := ⟨[(0, V (.slice a1 l_.length c1)), (4, V (.map (some r101))), (5, V (.map (some r105))), (6, I x_116), (7, Pt 8 0), (16, V (.slice a1 l_.length c1)), (17, I ((l_.length : Nat) : Int)), (18, I x_116), (32, Pt 8 2), (33, I ((gi l_ x_116).Start)), (34, V (.slice a1 l_.length c1)), (35, I x_116), (36, I (IntKind.i64.wrap (x_116 - 1))), (37, V (.pointer (some A158))), (38, V (.pointer (some A160))), (39, I ((gi l_ (IntKind.i64.wrap (x_116 - 1))).Start)), (40, B (decide (((gi l_ x_116).Start) ≤ ((gi l_ (IntKind.i64.wrap (x_116 - 1))).Start)))), (43, V undef), (44, V undef), (45, V undef), (46, V undef), (47, V undef), (50, V undef), (51, V undef), (52, V undef), (53, V undef), (54, V undef), (55, V undef), (56, V undef), (57, V undef), (58, V undef), (59, V undef), (60, B true)], [(8, (54, [I ((gi l_ x_116).Prc), I ((gi l_ x_116).Kind), I ((gi l_ x_116).Start), I ((gi l_ x_116).End), I ((gi l_ x_116).Result)]))]⟩) (by as_aux_lemma => kernel_rfl) (by rfl) ?_
                    intro a hS
                    refine drawnDone (by kernel_rfl) ?_
                    clear hD hH
                    replace hS := hS.sel [0, 4, 5, 6, 7, 16, 17, 18, 32, 33, 34, 35, 36, 37, 38, 39, 40, 60] [8] (sy' := ⟨[(0, V (.slice a1 l_.length c1)), (4, V (.map (some r101))), (5, V (.map (some r105))), (6, I x_116), (7, Pt 8 0), (16, V (.slice a1 l_.length c1)), (17, I ((l_.length : Nat) : Int)), (18, I x_116), (32, Pt 8 2), (33, I ((gi l_ x_116).Start)), (34, V (.slice a1 l_.length c1)), (35, I x_116), (36, I (IntKind.i64.wrap (x_116 - 1))), (37, V (.pointer (some A158))), (38, V (.pointer (some A160))), (39, I ((gi l_ (IntKind.i64.wrap (x_116 - 1))).Start)), (40, B (decide (((gi l_ x_116).Start) ≤ ((gi l_ (IntKind.i64.wrap (x_116 - 1))).Start)))), (60, B true)], [(8, (54, [I ((gi l_ x_116).Prc), I ((gi l_ x_116).Kind), I ((gi l_ x_116).Start), I ((gi l_ x_116).End), I ((gi l_ x_116).Result)]))]⟩) (by kernel_rfl)
                    exact ⟨ρ, _, true, hm, hS.sel [0, 4, 5, 6, 7, 16, 17, 18, 60] [8] (by kernel_rfl), hO, h110, h112, h114, h115⟩
                  · replace hS := hS.lit (t := 42) (by kernel_rfl) hb
                    replace hm := hm.2 hb
                    refine take T [14, 15, 16] [8] [0, 4, 5, 6, 7, 16, 17, 18, 32, 33, 34, 35, 36, 37, 38, 39, 40, 42, 43, 44, 45] hS (by kernel_rfl) (by kernel_rfl) (by kernel_rfl) hH (listed' := #[true, true, true, true, true, true, true, true, true, true, true, true, true, true, true, true, true, false, false, false, false, false, false, false, false, false, false, false, false, false, false, false]) (fuel := 15) (sy' := ⟨[(0, V (.slice a1 l_.length c1)), (4, V (.map (some r101))), (5, V (.map (some r105))), (6, I x_116), (7, Pt 8 0), (16, V (.slice a1 l_.length c1)), (17, I ((l_.length : Nat) : Int)), (18, I x_116), (32, Pt 8 2), (33, I ((gi l_ x_116).Start)), (34, V (.slice a1 l_.length c1)), (35, I x_116), (36, I (IntKind.i64.wrap (x_116 - 1))), (37, V (.pointer (some A158))), (38, V (.pointer (some A160))), (39, I ((gi l_ (IntKind.i64.wrap (x_116 - 1))).Start)), (40, B (decide (((gi l_ x_116).Start) ≤ ((gi l_ (IntKind.i64.wrap (x_116 - 1))).Start)))), (42, B false), (43, V (.map (some r101))), (44, Pt 8 2), (45, I ((gi l_ x_116).Start))], [(8, (54, [I ((gi l_ x_116).Prc), I ((gi l_ x_116).Kind), I ((gi l_ x_116).Start), I ((gi l_ x_116).End), I ((gi l_ x_116).Result)]))]⟩) (by as_aux_lemma => kernel_rfl) (by rfl) ?_
                    intro a hS
                    refine only 17 (by kernel_rfl) (by rfl) (mlook kI tI false (zv := .int .i64 0) (z := 0) ((gi l_ x_116).Start) hS (by kernel_rfl) (by kernel_rfl) (by kernel_rfl) (by kernel_rfl) Try.underlying85 Try.underlying3 (by kernel_rfl) rfl h112 ?_)
                    intro v163 a hv hS
                    replace hv : tI.R _ _ [v163] _ := hv
                    cases hv
                    refine andH (Hold.of hS (bks := [8]) (by kernel_rfl) hD) ?_
                    intro hH
                    refine take T [18, 19, 20] [8] [0, 4, 5, 6, 7, 16, 17, 18, 32, 33, 34, 35, 36, 37, 38, 39, 40, 43, 44, 45, 46, 47, 49] hS (by kernel_rfl) (by kernel_rfl) (by kernel_rfl) hH (listed' := #[true, true, true, true, true, true, true, true, true, true, true, true, true, true, true, true, true, true, true, true, true, false, false, false, false, false, false, false, false, false, false, false]) (fuel := 11) (sy' := ⟨[(0, V (.slice a1 l_.length c1)), (4, V (.map (some r101))), (5, V (.map (some r105))), (6, I x_116), (7, Pt 8 0), (16, V (.slice a1 l_.length c1)), (17, I ((l_.length : Nat) : Int)), (18, I x_116), (32, Pt 8 2), (33, I ((gi l_ x_116).Start)), (34, V (.slice a1 l_.length c1)), (35, I x_116), (36, I (IntKind.i64.wrap (x_116 - 1))), (37, V (.pointer (some A158))), (38, V (.pointer (some A160))), (39, I ((gi l_ (IntKind.i64.wrap (x_116 - 1))).Start)), (40, B (decide (((gi l_ x_116).Start) ≤ ((gi l_ (IntKind.i64.wrap (x_116 - 1))).Start)))), (43, V (.map (some r101))), (44, Pt 8 2), (45, I ((gi l_ x_116).Start)), (46, I ((mget used_111 ((gi l_ x_116).Start)).getD 0)), (47, B (decide (((mget used_111 ((gi l_ x_116).Start)).getD 0) > 0))), (49, B (decide (((mget used_111 ((gi l_ x_116).Start)).getD 0) > 0)))], [(8, (54, [I ((gi l_ x_116).Prc), I ((gi l_ x_116).Kind), I ((gi l_ x_116).Start), I ((gi l_ x_116).End), I ((gi l_ x_116).Result)]))]⟩) (by as_aux_lemma => kernel_rfl) (by rfl) ?_
                    intro a hS
                    rcases Bool.eq_false_or_eq_true (decide (((mget used_111 ((gi l_ x_116).Start)).getD 0) > 0)) with hb | hb
                    · replace hS := hS.lit (t := 49) (by kernel_rfl) hb
                      replace hm := hm.1 hb
                      refine take T [21, 22, 23, 24, 25, 26, 27, 28, 29, 30, 31] [8] [0, 4, 5, 6, 7, 16, 17, 18, 32, 33, 34, 35, 36, 37, 38, 39, 40, 43, 44, 45, 46, 47, 50, 51, 52, 53, 54, 55, 56, 57, 58, 59, 60] hS (by kernel_rfl) (by kernel_rfl) (by kernel_rfl) hH (listed' := #[true, true, true, true, true, true, true, true, true, true, true, true, true, true, true, true, true, true, true, true, true, true, true, true, true, true, true, true, true, true, true, true]) (fuel := 0) (sy' := ⟨[(0, V (.slice a1 l_.length c1)), (4, V (.map (some r101))), (5, V (.map (some r105))), (6, I x_116), (7, Pt 8 0), (16, V (.slice a1 l_.length c1)), (17, I ((l_.length : Nat) : Int)), (18, I x_116), (32, Pt 8 2), (33, I ((gi l_ x_116).Start)), (34, V (.slice a1 l_.length c1)), (35, I x_116), (36, I (IntKind.i64.wrap (x_116 - 1))), (37, V (.pointer (some A158))), (38, V (.pointer (some A160))), (39, I ((gi l_ (IntKind.i64.wrap (x_116 - 1))).Start)), (40, B (decide (((gi l_ x_116).Start) ≤ ((gi l_ (IntKind.i64.wrap (x_116 - 1))).Start)))), (43, V (.map (some r101))), (44, Pt 8 2), (45, I ((gi l_ x_116).Start)), (46, I ((mget used_111 ((gi l_ x_116).Start)).getD 0)), (47, B (decide (((mget used_111 ((gi l_ x_116).Start)).getD 0) > 0))), (50, V undef), (51, V undef), (52, V undef), (53, V undef), (54, V undef), (55, V undef), (56, V undef), (57, V undef), (58, V undef), (59, V undef), (60, B true)], [(8, (54, [I ((gi l_ x_116).Prc), I ((gi l_ x_116).Kind), I ((gi l_ x_116).Start), I ((gi l_ x_116).End), I ((gi l_ x_116).Result)]))]⟩) (by as_aux_lemma => kernel_rfl) (by rfl) ?_
                      intro a hS
                      refine drawnDone (by kernel_rfl) ?_
                      clear hD hH
                      replace hS := hS.sel [0, 4, 5, 6, 7, 16, 17, 18, 32, 33, 34, 35, 36, 37, 38, 39, 40, 43, 44, 45, 46, 47, 60] [8] (sy' := ⟨[(0, V (.slice a1 l_.length c1)), (4, V (.map (some r101))), (5, V (.map (some r105))), (6, I x_116), (7, Pt 8 0), (16, V (.slice a1 l_.length c1)), (17, I ((l_.length : Nat) : Int)), (18, I x_116), (32, Pt 8 2), (33, I ((gi l_ x_116).Start)), (34, V (.slice a1 l_.length c1)), (35, I x_116), (36, I (IntKind.i64.wrap (x_116 - 1))), (37, V (.pointer (some A158))), (38, V (.pointer (some A160))), (39, I ((gi l_ (IntKind.i64.wrap (x_116 - 1))).Start)), (40, B (decide (((gi l_ x_116).Start) ≤ ((gi l_ (IntKind.i64.wrap (x_116 - 1))).Start)))), (43, V (.map (some r101))), (44, Pt 8 2), (45, I ((gi l_ x_116).Start)), (46, I ((mget used_111 ((gi l_ x_116).Start)).getD 0)), (47, B (decide (((mget used_111 ((gi l_ x_116).Start)).getD 0) > 0))), (60, B true)], [(8, (54, [I ((gi l_ x_116).Prc), I ((gi l_ x_116).Kind), I ((gi l_ x_116).Start), I ((gi l_ x_116).End), I ((gi l_ x_116).Result)]))]⟩) (by kernel_rfl)
                      exact ⟨ρ, _, true, hm, hS.sel [0, 4, 5, 6, 7, 16, 17, 18, 60] [8] (by kernel_rfl), hO, h110, h112, h114, h115⟩
                    · replace hS := hS.lit (t := 49) (by kernel_rfl) hb
                      replace hm := hm.2 hb
                      refine take T [21, 22, 23, 24] [8] [0, 4, 5, 6, 7, 16, 17, 18, 32, 33, 34, 35, 36, 37, 38, 39, 40, 43, 44, 45, 46, 47, 49, 50, 51, 52, 53] hS (by kernel_rfl) (by kernel_rfl) (by kernel_rfl) hH (listed' := #[true, true, true, true, true, true, true, true, true, true, true, true, true, true, true, true, true, true, true, true, true, true, true, true, true, false, false, false, false, false, false, false]) (fuel := 7) (sy' := ⟨[(0, V (.slice a1 l_.length c1)), (4, V (.map (some r101))), (5, V (.map (some r105))), (6, I x_116), (7, Pt 8 0), (16, V (.slice a1 l_.length c1)), (17, I ((l_.length : Nat) : Int)), (18, I x_116), (32, Pt 8 2), (33, I ((gi l_ x_116).Start)), (34, V (.slice a1 l_.length c1)), (35, I x_116), (36, I (IntKind.i64.wrap (x_116 - 1))), (37, V (.pointer (some A158))), (38, V (.pointer (some A160))), (39, I ((gi l_ (IntKind.i64.wrap (x_116 - 1))).Start)), (40, B (decide (((gi l_ x_116).Start) ≤ ((gi l_ (IntKind.i64.wrap (x_116 - 1))).Start)))), (43, V (.map (some r101))), (44, Pt 8 2), (45, I ((gi l_ x_116).Start)), (46, I ((mget used_111 ((gi l_ x_116).Start)).getD 0)), (47, B (decide (((mget used_111 ((gi l_ x_116).Start)).getD 0) > 0))), (49, B false), (50, Pt 8 3), (51, I ((gi l_ x_116).End)), (52, B (decide (((gi l_ x_116).End) ≥ 0))), (53, B (decide (((gi l_ x_116).End) ≥ 0)))], [(8, (54, [I ((gi l_ x_116).Prc), I ((gi l_ x_116).Kind), I ((gi l_ x_116).Start), I ((gi l_ x_116).End), I ((gi l_ x_116).Result)]))]⟩) (by as_aux_lemma => kernel_rfl) (by rfl) ?_
                      intro a hS
                      rcases Bool.eq_false_or_eq_true (decide (((gi l_ x_116).End) ≥ 0)) with hb | hb
                      · replace hS := hS.lit (t := 53) (by kernel_rfl) hb
                        replace hm := hm.1 hb
                        refine take T [25, 26, 27] [8] [0, 4, 5, 6, 7, 16, 17, 18, 32, 33, 34, 35, 36, 37, 38, 39, 40, 43, 44, 45, 46, 47, 49, 50, 51, 52, 53, 54, 55, 56] hS (by kernel_rfl) (by kernel_rfl) (by kernel_rfl) hH (listed' := #[true, true, true, true, true, true, true, true, true, true, true, true, true, true, true, true, true, true, true, true, true, true, true, true, true, true, true, true, false, false, false, false]) (fuel := 4) (sy' := ⟨[(0, V (.slice a1 l_.length c1)), (4, V (.map (some r101))), (5, V (.map (some r105))), (6, I x_116), (7, Pt 8 0), (16, V (.slice a1 l_.length c1)), (17, I ((l_.length : Nat) : Int)), (18, I x_116), (32, Pt 8 2), (33, I ((gi l_ x_116).Start)), (34, V (.slice a1 l_.length c1)), (35, I x_116), (36, I (IntKind.i64.wrap (x_116 - 1))), (37, V (.pointer (some A158))), (38, V (.pointer (some A160))), (39, I ((gi l_ (IntKind.i64.wrap (x_116 - 1))).Start)), (40, B (decide (((gi l_ x_116).Start) ≤ ((gi l_ (IntKind.i64.wrap (x_116 - 1))).Start)))), (43, V (.map (some r101))), (44, Pt 8 2), (45, I ((gi l_ x_116).Start)), (46, I ((mget used_111 ((gi l_ x_116).Start)).getD 0)), (47, B (decide (((mget used_111 ((gi l_ x_116).Start)).getD 0) > 0))), (49, B false), (50, Pt 8 3), (51, I ((gi l_ x_116).End)), (52, B (decide (((gi l_ x_116).End) ≥ 0))), (53, B true), (54, V (.map (some r101))), (55, Pt 8 3), (56, I ((gi l_ x_116).End))], [(8, (54, [I ((gi l_ x_116).Prc), I ((gi l_ x_116).Kind), I ((gi l_ x_116).Start), I ((gi l_ x_116).End), I ((gi l_ x_116).Result)]))]⟩) (by as_aux_lemma => kernel_rfl) (by rfl) ?_
                        intro a hS
                        refine only 28 (by kernel_rfl) (by rfl) (mlook kI tI false (zv := .int .i64 0) (z := 0) ((gi l_ x_116).End) hS (by kernel_rfl) (by kernel_rfl) (by kernel_rfl) (by kernel_rfl) Try.underlying85 Try.underlying3 (by kernel_rfl) rfl h112 ?_)
                        intro v164 a hv hS
                        replace hv : tI.R _ _ [v164] _ := hv
                        cases hv
                        refine andH (Hold.of hS (bks := [8]) (by kernel_rfl) hD) ?_
                        intro hH
                        refine take T [29, 30, 31] [8] [0, 4, 5, 6, 7, 16, 17, 18, 32, 33, 34, 35, 36, 37, 38, 39, 40, 43, 44, 45, 46, 47, 50, 51, 52, 53, 54, 55, 56, 57, 58, 59, 60] hS (by kernel_rfl) (by kernel_rfl) (by kernel_rfl) hH (listed' := #[true, true, true, true, true, true, true, true, true, true, true, true, true, true, true, true, true, true, true, true, true, true, true, true, true, true, true, true, true, true, true, true]) (fuel := 0) (sy' := ⟨[(0, V (.slice a1 l_.length c1)), (4, V (.map (some r101))), (5, V (.map (some r105))), (6, I x_116), (7, Pt 8 0), (16, V (.slice a1 l_.length c1)), (17, I ((l_.length : Nat) : Int)), (18, I x_116), (32, Pt 8 2), (33, I ((gi l_ x_116).Start)), (34, V (.slice a1 l_.length c1)), (35, I x_116), (36, I (IntKind.i64.wrap (x_116 - 1))), (37, V (.pointer (some A158))), (38, V (.pointer (some A160))), (39, I ((gi l_ (IntKind.i64.wrap (x_116 - 1))).Start)), (40, B (decide (((gi l_ x_116).Start) ≤ ((gi l_ (IntKind.i64.wrap (x_116 - 1))).Start)))), (43, V (.map (some r101))), (44, Pt 8 2), (45, I ((gi l_ x_116).Start)), (46, I ((mget used_111 ((gi l_ x_116).Start)).getD 0)), (47, B (decide (((mget used_111 ((gi l_ x_116).Start)).getD 0) > 0))), (50, Pt 8 3), (51, I ((gi l_ x_116).End)), (52, B (decide (((gi l_ x_116).End) ≥ 0))), (53, B true), (54, V (.map (some r101))), (55, Pt 8 3), (56, I ((gi l_ x_116).End)), (57, I ((mget used_111 ((gi l_ x_116).End)).getD 0)), (58, B (decide (((mget used_111 ((gi l_ x_116).End)).getD 0) > 0))), (59, B (decide (((mget used_111 ((gi l_ x_116).End)).getD 0) > 0))), (60, B (decide (((mget used_111 ((gi l_ x_116).End)).getD 0) > 0)))], [(8, (54, [I ((gi l_ x_116).Prc), I ((gi l_ x_116).Kind), I ((gi l_ x_116).Start), I ((gi l_ x_116).End), I ((gi l_ x_116).Result)]))]⟩) (by as_aux_lemma => kernel_rfl) (by rfl) ?_
                        intro a hS
                        refine drawnDone (by kernel_rfl) ?_
                        clear hD hH
                        replace hS := hS.sel [0, 4, 5, 6, 7, 16, 17, 18, 32, 33, 34, 35, 36, 37, 38, 39, 40, 43, 44, 45, 46, 47, 50, 51, 52, 53, 54, 55, 56, 57, 58, 59, 60] [8] (sy' := ⟨[(0, V (.slice a1 l_.length c1)), (4, V (.map (some r101))), (5, V (.map (some r105))), (6, I x_116), (7, Pt 8 0), (16, V (.slice a1 l_.length c1)), (17, I ((l_.length : Nat) : Int)), (18, I x_116), (32, Pt 8 2), (33, I ((gi l_ x_116).Start)), (34, V (.slice a1 l_.length c1)), (35, I x_116), (36, I (IntKind.i64.wrap (x_116 - 1))), (37, V (.pointer (some A158))), (38, V (.pointer (some A160))), (39, I ((gi l_ (IntKind.i64.wrap (x_116 - 1))).Start)), (40, B (decide (((gi l_ x_116).Start) ≤ ((gi l_ (IntKind.i64.wrap (x_116 - 1))).Start)))), (43, V (.map (some r101))), (44, Pt 8 2), (45, I ((gi l_ x_116).Start)), (46, I ((mget used_111 ((gi l_ x_116).Start)).getD 0)), (47, B (decide (((mget used_111 ((gi l_ x_116).Start)).getD 0) > 0))), (50, Pt 8 3), (51, I ((gi l_ x_116).End)), (52, B (decide (((gi l_ x_116).End) ≥ 0))), (53, B true), (54, V (.map (some r101))), (55, Pt 8 3), (56, I ((gi l_ x_116).End)), (57, I ((mget used_111 ((gi l_ x_116).End)).getD 0)), (58, B (decide (((mget used_111 ((gi l_ x_116).End)).getD 0) > 0))), (59, B (decide (((mget used_111 ((gi l_ x_116).End)).getD 0) > 0))), (60, B (decide (((mget used_111 ((gi l_ x_116).End)).getD 0) > 0)))], [(8, (54, [I ((gi l_ x_116).Prc), I ((gi l_ x_116).Kind), I ((gi l_ x_116).Start), I ((gi l_ x_116).End), I ((gi l_ x_116).Result)]))]⟩) (by kernel_rfl)
                        exact ⟨ρ, _, decide (((mget used_111 ((gi l_ x_116).End)).getD 0) > 0), hm, hS.sel [0, 4, 5, 6, 7, 16, 17, 18, 60] [8] (by kernel_rfl), hO, h110, h112, h114, h115⟩
                      · replace hS := hS.lit (t := 53) (by kernel_rfl) hb
                        replace hm := hm.2 hb
                        refine take T [25, 26, 27, 28, 29, 30, 31] [8] [0, 4, 5, 6, 7, 16, 17, 18, 32, 33, 34, 35, 36, 37, 38, 39, 40, 43, 44, 45, 46, 47, 50, 51, 52, 53, 54, 55, 56, 57, 58, 59, 60] hS (by kernel_rfl) (by kernel_rfl) (by kernel_rfl) hH (listed' := #[true, true, true, true, true, true, true, true, true, true, true, true, true, true, true, true, true, true, true, true, true, true, true, true, true, true, true, true, true, true, true, true]) (fuel := 0) (sy' := ⟨[(0, V (.slice a1 l_.length c1)), (4, V (.map (some r101))), (5, V (.map (some r105))), (6, I x_116), (7, Pt 8 0), (16, V (.slice a1 l_.length c1)), (17, I ((l_.length : Nat) : Int)), (18, I x_116), (32, Pt 8 2), (33, I ((gi l_ x_116).Start)), (34, V (.slice a1 l_.length c1)), (35, I x_116), (36, I (IntKind.i64.wrap (x_116 - 1))), (37, V (.pointer (some A158))), (38, V (.pointer (some A160))), (39, I ((gi l_ (IntKind.i64.wrap (x_116 - 1))).Start)), (40, B (decide (((gi l_ x_116).Start) ≤ ((gi l_ (IntKind.i64.wrap (x_116 - 1))).Start)))), (43, V (.map (some r101))), (44, Pt 8 2), (45, I ((gi l_ x_116).Start)), (46, I ((mget used_111 ((gi l_ x_116).Start)).getD 0)), (47, B (decide (((mget used_111 ((gi l_ x_116).Start)).getD 0) > 0))), (50, Pt 8 3), (51, I ((gi l_ x_116).End)), (52, B (decide (((gi l_ x_116).End) ≥ 0))), (53, B false), (54, V undef), (55, V undef), (56, V undef), (57, V undef), (58, V undef), (59, B false), (60, B false)], [(8, (54, [I ((gi l_ x_116).Prc), I ((gi l_ x_116).Kind), I ((gi l_ x_116).Start), I ((gi l_ x_116).End), I ((gi l_ x_116).Result)]))]⟩) (by as_aux_lemma => kernel_rfl) (by rfl) ?_
                        intro a hS
                        refine drawnDone (by kernel_rfl) ?_
                        clear hD hH
                        replace hS := hS.sel [0, 4, 5, 6, 7, 16, 17, 18, 32, 33, 34, 35, 36, 37, 38, 39, 40, 43, 44, 45, 46, 47, 50, 51, 52, 53, 59, 60] [8] (sy' := ⟨[(0, V (.slice a1 l_.length c1)), (4, V (.map (some r101))), (5, V (.map (some r105))), (6, I x_116), (7, Pt 8 0), (16, V (.slice a1 l_.length c1)), (17, I ((l_.length : Nat) : Int)), (18, I x_116), (32, Pt 8 2), (33, I ((gi l_ x_116).Start)), (34, V (.slice a1 l_.length c1)), (35, I x_116), (36, I (IntKind.i64.wrap (x_116 - 1))), (37, V (.pointer (some A158))), (38, V (.pointer (some A160))), (39, I ((gi l_ (IntKind.i64.wrap (x_116 - 1))).Start)), (40, B (decide (((gi l_ x_116).Start) ≤ ((gi l_ (IntKind.i64.wrap (x_116 - 1))).Start)))), (43, V (.map (some r101))), (44, Pt 8 2), (45, I ((gi l_ x_116).Start)), (46, I ((mget used_111 ((gi l_ x_116).Start)).getD 0)), (47, B (decide (((mget used_111 ((gi l_ x_116).Start)).getD 0) > 0))), (50, Pt 8 3), (51, I ((gi l_ x_116).End)), (52, B (decide (((gi l_ x_116).End) ≥ 0))), (53, B false), (59, B false), (60, B false)], [(8, (54, [I ((gi l_ x_116).Prc), I ((gi l_ x_116).Kind), I ((gi l_ x_116).Start), I ((gi l_ x_116).End), I ((gi l_ x_116).Result)]))]⟩) (by kernel_rfl)
                        exact ⟨ρ, _, false, hm, hS.sel [0, 4, 5, 6, 7, 16, 17, 18, 60] [8] (by kernel_rfl), hO, h110, h112, h114, h115⟩
                · replace hS := hS.lit (t := 31) (by kernel_rfl) hb
                  replace hm := hm.2 hb
                  refine take T [3, 5, 6, 4, 7, 8, 9, 10, 11, 12, 13, 14, 15, 16] [8] [0, 4, 5, 6, 7, 16, 17, 18, 32, 33, 34, 35, 36, 37, 38, 39, 40, 42, 43, 44, 45] hS (by kernel_rfl) (by kernel_rfl) (by kernel_rfl) hH (listed' := #[true, true, true, true, true, true, true, true, true, true, true, true, true, true, true, true, true, false, false, false, false, false, false, false, false, false, false, false, false, false, false, false]) (fuel := 15) (sy' := ⟨[(0, V (.slice a1 l_.length c1)), (4, V (.map (some r101))), (5, V (.map (some r105))), (6, I x_116), (7, Pt 8 0), (16, V (.slice a1 l_.length c1)), (17, I ((l_.length : Nat) : Int)), (18, I x_116), (32, V undef), (33, V undef), (34, V undef), (35, V undef), (36, V undef), (37, V undef), (38, V undef), (39, V undef), (40, V undef), (42, B false), (43, V (.map (some r101))), (44, Pt 8 2), (45, I ((gi l_ x_116).Start))], [(8, (54, [I ((gi l_ x_116).Prc), I ((gi l_ x_116).Kind), I ((gi l_ x_116).Start), I ((gi l_ x_116).End), I ((gi l_ x_116).Result)]))]⟩) (by as_aux_lemma => kernel_rfl) (by rfl) ?_
                  intro a hS
                  refine only 17 (by kernel_rfl) (by rfl) (mlook kI tI false (zv := .int .i64 0) (z := 0) ((gi l_ x_116).Start) hS (by kernel_rfl) (by kernel_rfl) (by kernel_rfl) (by kernel_rfl) Try.underlying85 Try.underlying3 (by kernel_rfl) rfl h112 ?_)
                  intro v165 a hv hS
                  replace hv : tI.R _ _ [v165] _ := hv
                  cases hv
                  refine andH (Hold.of hS (bks := [8]) (by kernel_rfl) hD) ?_
                  intro hH
                  refine take T [18, 19, 20] [8] [0, 4, 5, 6, 7, 16, 17, 18, 32, 33, 34, 35, 36, 37, 38, 39, 40, 43, 44, 45, 46, 47, 49] hS (by kernel_rfl) (by kernel_rfl) (by kernel_rfl) hH (listed' := #[true, true, true, true, true, true, true, true, true, true, true, true, true, true, true, true, true, true, true, true, true, false, false, false, false, false, false, false, false, false, false, false]) (fuel := 11) (sy' := ⟨[(0, V (.slice a1 l_.length c1)), (4, V (.map (some r101))), (5, V (.map (some r105))), (6, I x_116), (7, Pt 8 0), (16, V (.slice a1 l_.length c1)), (17, I ((l_.length : Nat) : Int)), (18, I x_116), (32, V undef), (33, V undef), (34, V undef), (35, V undef), (36, V undef), (37, V undef), (38, V undef), (39, V undef), (40, V undef), (43, V (.map (some r101))), (44, Pt 8 2), (45, I ((gi l_ x_116).Start)), (46, I ((mget used_111 ((gi l_ x_116).Start)).getD 0)), (47, B (decide (((mget used_111 ((gi l_ x_116).Start)).getD 0) > 0))), (49, B (decide (((mget used_111 ((gi l_ x_116).Start)).getD 0) > 0)))], [(8, (54, [I ((gi l_ x_116).Prc), I ((gi l_ x_116).Kind), I ((gi l_ x_116).Start), I ((gi l_ x_116).End), I ((gi l_ x_116).Result)]))]⟩) (by as_aux_lemma => kernel_rfl) (by rfl) ?_
                  intro a hS
                  rcases Bool.eq_false_or_eq_true (decide (((mget used_111 ((gi l_ x_116).Start)).getD 0) > 0)) with hb | hb
                  · replace hS := hS.lit (t := 49) (by kernel_rfl) hb
                    replace hm := hm.1 hb
                    refine take T [21, 22, 23, 24, 25, 26, 27, 28, 29, 30, 31] [8] [0, 4, 5, 6, 7, 16, 17, 18, 32, 33, 34, 35, 36, 37, 38, 39, 40, 43, 44, 45, 46, 47, 50, 51, 52, 53, 54, 55, 56, 57, 58, 59, 60] hS (by kernel_rfl) (by kernel_rfl) (by kernel_rfl) hH (listed' := #[true, true, true, true, true, true, true, true, true, true, true, true, true, true, true, true, true, true, true, true, true, true, true, true, true, true, true, true, true, true, true, true]) (fuel := 0) (sy' := ⟨[(0, V (.slice a1 l_.length c1)), (4, V (.map (some r101))), (5, V (.map (some r105))), (6, I x_116), (7, Pt 8 0), (16, V (.slice a1 l_.length c1)), (17, I ((l_.length : Nat) : Int)), (18, I x_116), (32, V undef), (33, V undef), (34, V undef), (35, V undef), (36, V undef), (37, V undef), (38, V undef), (39, V undef), (40, V undef), (43, V (.map (some r101))), (44, Pt 8 2), (45, I ((gi l_ x_116).Start)), (46, I ((mget used_111 ((gi l_ x_116).Start)).getD 0)), (47, B (decide (((mget used_111 ((gi l_ x_116).Start)).getD 0) > 0))), (50, V undef), (51, V undef), (52, V undef), (53, V undef), (54, V undef), (55, V undef), (56, V undef), (57, V undef), (58, V undef), (59, V undef), (60, B true)], [(8, (54, [I ((gi l_ x_116).Prc), I ((gi l_ x_116).Kind), I ((gi l_ x_116).Start), I ((gi l_ x_116).End), I ((gi l_ x_116).Result)]))]⟩) (by as_aux_lemma => kernel_rfl) (by rfl) ?_
                    intro a hS
                    refine drawnDone (by kernel_rfl) ?_
                    clear hD hH
                    replace hS := hS.sel [0, 4, 5, 6, 7, 16, 17, 18, 43, 44, 45, 46, 47, 60] [8] (sy' := ⟨[(0, V (.slice a1 l_.length c1)), (4, V (.map (some r101))), (5, V (.map (some r105))), (6, I x_116), (7, Pt 8 0), (16, V (.slice a1 l_.length c1)), (17, I ((l_.length : Nat) : Int)), (18, I x_116), (43, V (.map (some r101))), (44, Pt 8 2), (45, I ((gi l_ x_116).Start)), (46, I ((mget used_111 ((gi l_ x_116).Start)).getD 0)), (47, B (decide (((mget used_111 ((gi l_ x_116).Start)).getD 0) > 0))), (60, B true)], [(8, (54, [I ((gi l_ x_116).Prc), I ((gi l_ x_116).Kind), I ((gi l_ x_116).Start), I ((gi l_ x_116).End), I ((gi l_ x_116).Result)]))]⟩) (by kernel_rfl)
                    exact ⟨ρ, _, true, hm, hS.sel [0, 4, 5, 6, 7, 16, 17, 18, 60] [8] (by kernel_rfl), hO, h110, h112, h114, h115⟩
                  · replace hS := hS.lit (t := 49) (by kernel_rfl) hb
                    replace hm := hm.2 hb
                    refine take T [21, 22, 23, 24] [8] [0, 4, 5, 6, 7, 16, 17, 18, 32, 33, 34, 35, 36, 37, 38, 39, 40, 43, 44, 45, 46, 47, 49, 50, 51, 52, 53] hS (by kernel_rfl) (by kernel_rfl) (by kernel_rfl) hH (listed' := #[true, true, true, true, true, true, true, true, true, true, true, true, true, true, true, true, true, true, true, true, true, true, true, true, true, false, false, false, false, false, false, false]) (fuel := 7) (sy' := ⟨[(0, V (.slice a1 l_.length c1)), (4, V (.map (some r101))), (5, V (.map (some r105))), (6, I x_116), (7, Pt 8 0), (16, V (.slice a1 l_.length c1)), (17, I ((l_.length : Nat) : Int)), (18, I x_116), (32, V undef), (33, V undef), (34, V undef), (35, V undef), (36, V undef), (37, V undef), (38, V undef), (39, V undef), (40, V undef), (43, V (.map (some r101))), (44, Pt 8 2), (45, I ((gi l_ x_116).Start)), (46, I ((mget used_111 ((gi l_ x_116).Start)).getD 0)), (47, B (decide (((mget used_111 ((gi l_ x_116).Start)).getD 0) > 0))), (49, B false), (50, Pt 8 3), (51, I ((gi l_ x_116).End)), (52, B (decide (((gi l_ x_116).End) ≥ 0))), (53, B (decide (((gi l_ x_116).End) ≥ 0)))], [(8, (54, [I ((gi l_ x_116).Prc), I ((gi l_ x_116).Kind), I ((gi l_ x_116).Start), I ((gi l_ x_116).End), I ((gi l_ x_116).Result)]))]⟩) (by as_aux_lemma => kernel_rfl) (by rfl) ?_
                    intro a hS
                    rcases Bool.eq_false_or_eq_true (decide (((gi l_ x_116).End) ≥ 0)) with hb | hb
                    · replace hS := hS.lit (t := 53) (by kernel_rfl) hb
                      replace hm := hm.1 hb
                      refine take T [25, 26, 27] [8] [0, 4, 5, 6, 7, 16, 17, 18, 32, 33, 34, 35, 36, 37, 38, 39, 40, 43, 44, 45, 46, 47, 49, 50, 51, 52, 53, 54, 55, 56] hS (by kernel_rfl) (by kernel_rfl) (by kernel_rfl) hH (listed' := #[true, true, true, true, true, true, true, true, true, true, true, true, true, true, true, true, true, true, true, true, true, true, true, true, true, true, true, true, false, false, false, false]) (fuel := 4) (sy' := ⟨[(0, V (.slice a1 l_.length c1)), (4, V (.map (some r101))), (5, V (.map (some r105))), (6, I x_116), (7, Pt 8 0), (16, V (.slice a1 l_.length c1)), (17, I ((l_.length : Nat) : Int)), (18, I x_116), (32, V undef), (33, V undef), (34, V undef), (35, V undef), (36, V undef), (37, V undef), (38, V undef), (39, V undef), (40, V undef), (43, V (.map (some r101))), (44, Pt 8 2), (45, I ((gi l_ x_116).Start)), (46, I ((mget used_111 ((gi l_ x_116).Start)).getD 0)), (47, B (decide (((mget used_111 ((gi l_ x_116).Start)).getD 0) > 0))), (49, B false), (50, Pt 8 3), (51, I ((gi l_ x_116).End)), (52, B (decide (((gi l_ x_116).End) ≥ 0))), (53, B true), (54, V (.map (some r101))), (55, Pt 8 3), (56, I ((gi l_ x_116).End))], [(8, (54, [I ((gi l_ x_116).Prc), I ((gi l_ x_116).Kind), I ((gi l_ x_116).Start), I ((gi l_ x_116).End), I ((gi l_ x_116).Result)]))]⟩) (by as_aux_lemma => kernel_rfl) (by rfl) ?_
                      intro a hS
                      refine only 28 (by kernel_rfl) (by rfl) (mlook kI tI false (zv := .int .i64 0) (z := 0) ((gi l_ x_116).End) hS (by kernel_rfl) (by kernel_rfl) (by kernel_rfl) (by kernel_rfl) Try.underlying85 Try.underlying3 (by kernel_rfl) rfl h112 ?_)
                      intro v166 a hv hS
                      replace hv : tI.R _ _ [v166] _ := hv
                      cases hv
                      refine andH (Hold.of hS (bks := [8]) (by kernel_rfl) hD) ?_
                      intro hH
                      refine take T [29, 30, 31] [8] [0, 4, 5, 6, 7, 16, 17, 18, 32, 33, 34, 35, 36, 37, 38, 39, 40, 43, 44, 45, 46, 47, 50, 51, 52, 53, 54, 55, 56, 57, 58, 59, 60] hS (by kernel_rfl) (by kernel_rfl) (by kernel_rfl) hH (listed' := #[true, true, true, true, true, true, true, true, true, true, true, true, true, true, true, true, true, true, true, true, true, true, true, true, true, true, true, true, true, true, true, true]) (fuel := 0) (sy' := ⟨[(0, V (.slice a1 l_.length c1)), (4, V (.map (some r101))), (5, V (.map (some r105))), (6, I x_116), (7, Pt 8 0), (16, V (.slice a1 l_.length c1)), (17, I ((l_.length : Nat) : Int)), (18, I x_116), (32, V undef), (33, V undef), (34, V undef), (35, V undef), (36, V undef), (37, V undef), (38, V undef), (39, V undef), (40, V undef), (43, V (.map (some r101))), (44, Pt 8 2), (45, I ((gi l_ x_116).Start)), (46, I ((mget used_111 ((gi l_ x_116).Start)).getD 0)), (47, B (decide (((mget used_111 ((gi l_ x_116).Start)).getD 0) > 0))), (50, Pt 8 3), (51, I ((gi l_ x_116).End)), (52, B (decide (((gi l_ x_116).End) ≥ 0))), (53, B true), (54, V (.map (some r101))), (55, Pt 8 3), (56, I ((gi l_ x_116).End)), (57, I ((mget used_111 ((gi l_ x_116).End)).getD 0)), (58, B (decide (((mget used_111 ((gi l_ x_116).End)).getD 0) > 0))), (59, B (decide (((mget used_111 ((gi l_ x_116).End)).getD 0) > 0))), (60, B (decide (((mget used_111 ((gi l_ x_116).End)).getD 0) > 0)))], [(8, (54, [I ((gi l_ x_116).Prc), I ((gi l_ x_116).Kind), I ((gi l_ x_116).Start), I ((gi l_ x_116).End), I ((gi l_ x_116).Result)]))]⟩) (by as_aux_lemma => kernel_rfl) (by rfl) ?_
                      intro a hS
                      refine drawnDone (by kernel_rfl) ?_
                      clear hD hH
                      replace hS := hS.sel [0, 4, 5, 6, 7, 16, 17, 18, 43, 44, 45, 46, 47, 50, 51, 52, 53, 54, 55, 56, 57, 58, 59, 60] [8] (sy' := ⟨[(0, V (.slice a1 l_.length c1)), (4, V (.map (some r101))), (5, V (.map (some r105))), (6, I x_116), (7, Pt 8 0), (16, V (.slice a1 l_.length c1)), (17, I ((l_.length : Nat) : Int)), (18, I x_116), (43, V (.map (some r101))), (44, Pt 8 2), (45, I ((gi l_ x_116).Start)), (46, I ((mget used_111 ((gi l_ x_116).Start)).getD 0)), (47, B (decide (((mget used_111 ((gi l_ x_116).Start)).getD 0) > 0))), (50, Pt 8 3), (51, I ((gi l_ x_116).End)), (52, B (decide (((gi l_ x_116).End) ≥ 0))), (53, B true), (54, V (.map (some r101))), (55, Pt 8 3), (56, I ((gi l_ x_116).End)), (57, I ((mget used_111 ((gi l_ x_116).End)).getD 0)), (58, B (decide (((mget used_111 ((gi l_ x_116).End)).getD 0) > 0))), (59, B (decide (((mget used_111 ((gi l_ x_116).End)).getD 0) > 0))), (60, B (decide (((mget used_111 ((gi l_ x_116).End)).getD 0) > 0)))], [(8, (54, [I ((gi l_ x_116).Prc), I ((gi l_ x_116).Kind), I ((gi l_ x_116).Start), I ((gi l_ x_116).End), I ((gi l_ x_116).Result)]))]⟩) (by kernel_rfl)
                      exact ⟨ρ, _, decide (((mget used_111 ((gi l_ x_116).End)).getD 0) > 0), hm, hS.sel [0, 4, 5, 6, 7, 16, 17, 18, 60] [8] (by kernel_rfl), hO, h110, h112, h114, h115⟩
                    · replace hS := hS.lit (t := 53) (by kernel_rfl) hb
                      replace hm := hm.2 hb
                      refine take T [25, 26, 27, 28, 29, 30, 31] [8] [0, 4, 5, 6, 7, 16, 17, 18, 32, 33, 34, 35, 36, 37, 38, 39, 40, 43, 44, 45, 46, 47, 50, 51, 52, 53, 54, 55, 56, 57, 58, 59, 60] hS (by kernel_rfl) (by kernel_rfl) (by kernel_rfl) hH (listed' := #[true, true, true, true, true, true, true, true, true, true, true, true, true, true, true, true, true, true, true, true, true, true, true, true, true, true, true, true, true, true, true, true]) (fuel := 0) (sy' := ⟨[(0, V (.slice a1 l_.length c1)), (4, V (.map (some r101))), (5, V (.map (some r105))), (6, I x_116), (7, Pt 8 0), (16, V (.slice a1 l_.length c1)), (17, I ((l_.length : Nat) : Int)), (18, I x_116), (32, V undef), (33, V undef), (34, V undef), (35, V undef), (36, V undef), (37, V undef), (38, V undef), (39, V undef), (40, V undef), (43, V (.map (some r101))), (44, Pt 8 2), (45, I ((gi l_ x_116).Start)), (46, I ((mget used_111 ((gi l_ x_116).Start)).getD 0)), (47, B (decide (((mget used_111 ((gi l_ x_116).Start)).getD 0) > 0))), (50, Pt 8 3), (51, I ((gi l_ x_116).End)), (52, B (decide (((gi l_ x_116).End) ≥ 0))), (53, B false), (54, V undef), (55, V undef), (56, V undef), (57, V undef), (58, V undef), (59, B false), (60, B false)], [(8, (54, [I ((gi l_ x_116).Prc), I ((gi l_ x_116).Kind), I ((gi l_ x_116).Start), I ((gi l_ x_116).End), I ((gi l_ x_116).Result)]))]⟩) (by as_aux_lemma => kernel_rfl) (by rfl) ?_
                      intro a hS
                      refine drawnDone (by kernel_rfl) ?_
                      clear hD hH
                      replace hS := hS.sel [0, 4, 5, 6, 7, 16, 17, 18, 43, 44, 45, 46, 47, 50, 51, 52, 53, 59, 60] [8] (sy' := ⟨[(0, V (.slice a1 l_.length c1)), (4, V (.map (some r101))), (5, V (.map (some r105))), (6, I x_116), (7, Pt 8 0), (16, V (.slice a1 l_.length c1)), (17, I ((l_.length : Nat) : Int)), (18, I x_116), (43, V (.map (some r101))), (44, Pt 8 2), (45, I ((gi l_ x_116).Start)), (46, I ((mget used_111 ((gi l_ x_116).Start)).getD 0)), (47, B (decide (((mget used_111 ((gi l_ x_116).Start)).getD 0) > 0))), (50, Pt 8 3), (51, I ((gi l_ x_116).End)), (52, B (decide (((gi l_ x_116).End) ≥ 0))), (53, B false), (59, B false), (60, B false)], [(8, (54, [I ((gi l_ x_116).Prc), I ((gi l_ x_116).Kind), I ((gi l_ x_116).Start), I ((gi l_ x_116).End), I ((gi l_ x_116).Result)]))]⟩) (by kernel_rfl)
                      exact ⟨ρ, _, false, hm, hS.sel [0, 4, 5, 6, 7, 16, 17, 18, 60] [8] (by kernel_rfl), hO, h110, h112, h114, h115⟩
              · rintro a w168 ⟨ρ, χ167, x_133, hm, hS, hO, h129, h130, h131, h132⟩
                unfold VC32_J3 at hm
                refine wcond hS (b := x_133) (by kernel_rfl) (fun hb => ?_) (fun hb => ?_)
                · replace hm := hm.1 hb
                  refine regP T hS (sp := []) (ks := [2, 3]) (bs := []) (sy' := ⟨[(2, I x_116), (3, I 32)], []⟩) (by kernel_rfl) ?_
                  intro a hS
                  refine wret ?_
                  exact fin T hS hO (fun c => c) rfl (r := [.int .i64 x_116, .int .i64 32]) (by kernel_rfl) (fun χ' hM hC => ⟨(x_116, 32), hm, rfl⟩)
                · replace hm := hm.2 hb
                  refine wskip ?_
                  refine wseq ?_
                  refine regO ?_
                  refine opsP T hS 3 (sp := []) (ks := [0, 4, 5, 6, 7, 16, 17, 18, 63, 65]) (bs := [8]) (sy' := ⟨[(0, V (.slice a1 l_.length c1)), (4, V (.map (some r101))), (5, V (.map (some r105))), (6, I x_116), (7, Pt 8 0), (16, V (.slice a1 l_.length c1)), (17, I ((l_.length : Nat) : Int)), (18, I x_116), (63, V (.map (some r105))), (65, I ((gi l_ x_116).Prc))], [(8, (54, [I ((gi l_ x_116).Prc), I ((gi l_ x_116).Kind), I ((gi l_ x_116).Start), I ((gi l_ x_116).End), I ((gi l_ x_116).Result)]))]⟩) (by kernel_rfl) ?_
                  intro a hS
                  refine op1 (mlook2 kI tApi_Oper true (zv := .agg #[.int .i64 0, .int .i64 0, .int .i64 0, .int .i64 0, .int .i64 0]) (z := (⟨0, 0, 0, 0, 0⟩ : Api_Oper)) ((gi l_ x_116).Prc) hS (by kernel_rfl) (by kernel_rfl) (by kernel_rfl) (by kernel_rfl) Try.underlying88 Try.underlying3 (by kernel_rfl) ⟨_, rfl, rfl⟩ h131 ?_)
                  intro v134 a hv hS
                  obtain ⟨_, rfl, hv⟩ := hv
                  cases hv
                  refine endM T hS (sp := []) (ks := [0, 4, 5, 6, 7, 9, 10, 16, 17, 18]) (bs := [8, 10]) (sy' := ⟨[(0, V (.slice a1 l_.length c1)), (4, V (.map (some r101))), (5, V (.map (some r105))), (6, I x_116), (7, Pt 8 0), (9, Pt 10 0), (10, B ((mget latest_113 ((gi l_ x_116).Prc)).isSome)), (16, V (.slice a1 l_.length c1)), (17, I ((l_.length : Nat) : Int)), (18, I x_116)], [(8, (54, [I ((gi l_ x_116).Prc), I ((gi l_ x_116).Kind), I ((gi l_ x_116).Start), I ((gi l_ x_116).End), I ((gi l_ x_116).Result)])), (10, (54, [I (((mget latest_113 ((gi l_ x_116).Prc)).getD (⟨0, 0, 0, 0, 0⟩ : Api_Oper)).Prc), I (((mget latest_113 ((gi l_ x_116).Prc)).getD (⟨0, 0, 0, 0, 0⟩ : Api_Oper)).Kind), I (((mget latest_113 ((gi l_ x_116).Prc)).getD (⟨0, 0, 0, 0, 0⟩ : Api_Oper)).Start), I (((mget latest_113 ((gi l_ x_116).Prc)).getD (⟨0, 0, 0, 0, 0⟩ : Api_Oper)).End), I (((mget latest_113 ((gi l_ x_116).Prc)).getD (⟨0, 0, 0, 0, 0⟩ : Api_Oper)).Result)]))]⟩) (by kernel_rfl) ?_
                  intro ρ a w154 χ155 hS hE hr
                  replace hO := hO.mv hE rfl rfl
                  replace h129 := h129.mv hE rfl
                  replace h130 := h130.mv hE rfl rfl
                  replace h131 := h131.mv hE rfl rfl
                  replace h132 := h132.mv hE rfl
                  clear hE hr
                  refine wcut (fun a w => ∃ (ρ : Nat → Nat) (χ : Nat → Nat) (x_139 : Bool), VC32_J4 l_ Q I1 μ1 used_111 latest_113 x_116 x_139 ∧ St Try.f32.ntmps ⟨[(0, V (.slice a1 l_.length c1)), (4, V (.map (some r101))), (5, V (.map (some r105))), (6, I x_116), (7, Pt 8 0), (16, V (.slice a1 l_.length c1)), (17, I ((l_.length : Nat) : Int)), (18, I x_116), (75, B x_139)], [(8, (54, [I ((gi l_ x_116).Prc), I ((gi l_ x_116).Kind), I ((gi l_ x_116).Start), I ((gi l_ x_116).End), I ((gi l_ x_116).Result)]))]⟩ ρ a w χ ∧ Old w0 χ0 w χ ∧ RS tApi_Oper w χ a1 l_ c1 ∧ OM kI tI false w χ 1015 r101 used_111 ∧ OM kI tApi_Oper true w χ 1016 r105 latest_113 ∧ RS tApi_Oper w χ a1 l_ c1) ?_ ?_
                  · refine region ?_
                    refine opsP T hS 2 (sp := []) (ks := [0, 4, 5, 6, 7, 9, 16, 17, 18, 70]) (bs := [8, 10]) (sy' := ⟨[(0, V (.slice a1 l_.length c1)), (4, V (.map (some r101))), (5, V (.map (some r105))), (6, I x_116), (7, Pt 8 0), (9, Pt 10 0), (16, V (.slice a1 l_.length c1)), (17, I ((l_.length : Nat) : Int)), (18, I x_116), (70, B ((mget latest_113 ((gi l_ x_116).Prc)).isSome))], [(8, (54, [I ((gi l_ x_116).Prc), I ((gi l_ x_116).Kind), I ((gi l_ x_116).Start), I ((gi l_ x_116).End), I ((gi l_ x_116).Result)])), (10, (54, [I (((mget latest_113 ((gi l_ x_116).Prc)).getD (⟨0, 0, 0, 0, 0⟩ : Api_Oper)).Prc), I (((mget latest_113 ((gi l_ x_116).Prc)).getD (⟨0, 0, 0, 0, 0⟩ : Api_Oper)).Kind), I (((mget latest_113 ((gi l_ x_116).Prc)).getD (⟨0, 0, 0, 0, 0⟩ : Api_Oper)).Start), I (((mget latest_113 ((gi l_ x_116).Prc)).getD (⟨0, 0, 0, 0, 0⟩ : Api_Oper)).End), I (((mget latest_113 ((gi l_ x_116).Prc)).getD (⟨0, 0, 0, 0, 0⟩ : Api_Oper)).Result)]))]⟩) (by kernel_rfl) ?_
                    intro a hS
                    rcases Bool.eq_false_or_eq_true ((mget latest_113 ((gi l_ x_116).Prc)).isSome) with hb | hb
                    · replace hS := hS.lit (t := 70) (by kernel_rfl) hb
                      replace hm := hm.1 hb
                      refine opsP T hS 2 (sp := []) (ks := [0, 4, 5, 6, 7, 16, 17, 18, 70, 71, 72]) (bs := [8]) (sy' := ⟨[(0, V (.slice a1 l_.length c1)), (4, V (.map (some r101))), (5, V (.map (some r105))), (6, I x_116), (7, Pt 8 0), (16, V (.slice a1 l_.length c1)), (17, I ((l_.length : Nat) : Int)), (18, I x_116), (70, B true), (71, V (.agg #[.int .i64 (((mget latest_113 ((gi l_ x_116).Prc)).getD (⟨0, 0, 0, 0, 0⟩ : Api_Oper)).Prc), .int .i64 (((mget latest_113 ((gi l_ x_116).Prc)).getD (⟨0, 0, 0, 0, 0⟩ : Api_Oper)).Kind), .int .i64 (((mget latest_113 ((gi l_ x_116).Prc)).getD (⟨0, 0, 0, 0, 0⟩ : Api_Oper)).Start), .int .i64 (((mget latest_113 ((gi l_ x_116).Prc)).getD (⟨0, 0, 0, 0, 0⟩ : Api_Oper)).End), .int .i64 (((mget latest_113 ((gi l_ x_116).Prc)).getD (⟨0, 0, 0, 0, 0⟩ : Api_Oper)).Result)])), (72, V (.agg #[.int .i64 ((gi l_ x_116).Prc), .int .i64 ((gi l_ x_116).Kind), .int .i64 ((gi l_ x_116).Start), .int .i64 ((gi l_ x_116).End), .int .i64 ((gi l_ x_116).Result)]))], [(8, (54, [I ((gi l_ x_116).Prc), I ((gi l_ x_116).Kind), I ((gi l_ x_116).Start), I ((gi l_ x_116).End), I ((gi l_ x_116).Result)]))]⟩) (by kernel_rfl) ?_
                      intro a hS
                      refine op1 (call hS (by kernel_rfl) (by kernel_rfl) hb53 (by kernel_rfl) (fun _ _ => rfl) (k53 _ _ ((mget latest_113 ((gi l_ x_116).Prc)).getD (⟨0, 0, 0, 0, 0⟩ : Api_Oper)) (gi l_ x_116)) ?_)
                      intro v148 a w149 χ150 hE hp hS
                      replace hO := hO.mv hE rfl rfl
                      replace h129 := h129.mv hE rfl
                      replace h130 := h130.mv hE rfl rfl
                      replace h131 := h131.mv hE rfl rfl
                      replace h132 := h132.mv hE rfl
                      clear hE
                      obtain ⟨r151, hr⟩ : ∃ r, oper_Ahead ((mget latest_113 ((gi l_ x_116).Prc)).getD (⟨0, 0, 0, 0, 0⟩ : Api_Oper)) (gi l_ x_116) = r := ⟨_, rfl⟩
                      replace hm := hm r151 hr
                      rw [hr] at hp
                      clear hr
                      subst hp
                      refine endP T hS (sp := []) (ks := [0, 4, 5, 6, 7, 16, 17, 18, 71, 72, 73, 74, 75]) (bs := [8]) (sy' := ⟨[(0, V (.slice a1 l_.length c1)), (4, V (.map (some r101))), (5, V (.map (some r105))), (6, I x_116), (7, Pt 8 0), (16, V (.slice a1 l_.length c1)), (17, I ((l_.length : Nat) : Int)), (18, I x_116), (71, V (.agg #[.int .i64 (((mget latest_113 ((gi l_ x_116).Prc)).getD (⟨0, 0, 0, 0, 0⟩ : Api_Oper)).Prc), .int .i64 (((mget latest_113 ((gi l_ x_116).Prc)).getD (⟨0, 0, 0, 0, 0⟩ : Api_Oper)).Kind), .int .i64 (((mget latest_113 ((gi l_ x_116).Prc)).getD (⟨0, 0, 0, 0, 0⟩ : Api_Oper)).Start), .int .i64 (((mget latest_113 ((gi l_ x_116).Prc)).getD (⟨0, 0, 0, 0, 0⟩ : Api_Oper)).End), .int .i64 (((mget latest_113 ((gi l_ x_116).Prc)).getD (⟨0, 0, 0, 0, 0⟩ : Api_Oper)).Result)])), (72, V (.agg #[.int .i64 ((gi l_ x_116).Prc), .int .i64 ((gi l_ x_116).Kind), .int .i64 ((gi l_ x_116).Start), .int .i64 ((gi l_ x_116).End), .int .i64 ((gi l_ x_116).Result)])), (73, B r151), (74, B (!r151)), (75, B (!r151))], [(8, (54, [I ((gi l_ x_116).Prc), I ((gi l_ x_116).Kind), I ((gi l_ x_116).Start), I ((gi l_ x_116).End), I ((gi l_ x_116).Result)]))]⟩) (by kernel_rfl) ?_
                      intro a hS
                      exact ⟨ρ, _, (!r151), hm, hS.sel [0, 4, 5, 6, 7, 16, 17, 18, 75] [8] (by kernel_rfl), hO, h129, h130, h131, h132⟩
                    · replace hS := hS.lit (t := 70) (by kernel_rfl) hb
                      replace hm := hm.2 hb
                      refine endP T hS (sp := []) (ks := [0, 4, 5, 6, 7, 16, 17, 18, 75]) (bs := [8]) (sy' := ⟨[(0, V (.slice a1 l_.length c1)), (4, V (.map (some r101))), (5, V (.map (some r105))), (6, I x_116), (7, Pt 8 0), (16, V (.slice a1 l_.length c1)), (17, I ((l_.length : Nat) : Int)), (18, I x_116), (75, B false)], [(8, (54, [I ((gi l_ x_116).Prc), I ((gi l_ x_116).Kind), I ((gi l_ x_116).Start), I ((gi l_ x_116).End), I ((gi l_ x_116).Result)]))]⟩) (by kernel_rfl) ?_
                      intro a hS
                      exact ⟨ρ, _, false, hm, hS.sel [0, 4, 5, 6, 7, 16, 17, 18, 75] [8] (by kernel_rfl), hO, h129, h130, h131, h132⟩
                  · rintro a w153 ⟨ρ, χ152, x_139, hm, hS, hO, h135, h136, h137, h138⟩
                    unfold VC32_J4 at hm
                    refine wcond hS (b := x_139) (by kernel_rfl) (fun hb => ?_) (fun hb => ?_)
                    · replace hm := hm.1 hb
                      refine regP T hS (sp := []) (ks := [2, 3]) (bs := []) (sy' := ⟨[(2, I x_116), (3, I 33)], []⟩) (by kernel_rfl) ?_
                      intro a hS
                      refine wret ?_
                      exact fin T hS hO (fun c => c) rfl (r := [.int .i64 x_116, .int .i64 33]) (by kernel_rfl) (fun χ' hM hC => ⟨(x_116, 33), hm, rfl⟩)
                    · replace hm := hm.2 hb
                      refine wskip ?_
                      refine regO ?_
                      refine opsP T hS 3 (sp := []) (ks := [0, 4, 5, 7, 16, 17, 18, 77, 79]) (bs := [8]) (sy' := ⟨[(0, V (.slice a1 l_.length c1)), (4, V (.map (some r101))), (5, V (.map (some r105))), (7, Pt 8 0), (16, V (.slice a1 l_.length c1)), (17, I ((l_.length : Nat) : Int)), (18, I x_116), (77, V (.map (some r101))), (79, I ((gi l_ x_116).Start))], [(8, (54, [I ((gi l_ x_116).Prc), I ((gi l_ x_116).Kind), I ((gi l_ x_116).Start), I ((gi l_ x_116).End), I ((gi l_ x_116).Result)]))]⟩) (by kernel_rfl) ?_
                      intro a hS
                      refine op1 (mlook kI tI false (zv := .int .i64 0) (z := 0) ((gi l_ x_116).Start) hS (by kernel_rfl) (by kernel_rfl) (by kernel_rfl) (by kernel_rfl) Try.underlying85 Try.underlying3 (by kernel_rfl) rfl h136 ?_)
                      intro v140 a hv hS
                      replace hv : tI.R _ _ [v140] _ := hv
                      cases hv
                      refine opsP T hS 1 (sp := []) (ks := [0, 4, 5, 7, 16, 17, 18, 77, 79, 81]) (bs := [8]) (sy' := ⟨[(0, V (.slice a1 l_.length c1)), (4, V (.map (some r101))), (5, V (.map (some r105))), (7, Pt 8 0), (16, V (.slice a1 l_.length c1)), (17, I ((l_.length : Nat) : Int)), (18, I x_116), (77, V (.map (some r101))), (79, I ((gi l_ x_116).Start)), (81, I (IntKind.i64.wrap (((mget used_111 ((gi l_ x_116).Start)).getD 0) + 1)))], [(8, (54, [I ((gi l_ x_116).Prc), I ((gi l_ x_116).Kind), I ((gi l_ x_116).Start), I ((gi l_ x_116).End), I ((gi l_ x_116).Result)]))]⟩) (by kernel_rfl) ?_
                      intro a hS
                      refine op1 (mset kI tI false (v := I (IntKind.i64.wrap (((mget used_111 ((gi l_ x_116).Start)).getD 0) + 1))) (u := IntKind.i64.wrap (((mget used_111 ((gi l_ x_116).Start)).getD 0) + 1)) ((gi l_ x_116).Start) hS (by kernel_rfl) (by kernel_rfl) (by kernel_rfl) (by kernel_rfl) Try.underlying85 Try.underlying3 (by kernel_rfl) h136 rfl ?_)
                      intro a w141 hE h142 hS
                      clear h136
                      replace hO := hO.mv hE rfl rfl
                      replace h135 := h135.mv hE rfl
                      replace h137 := h137.mv hE rfl rfl
                      replace h138 := h138.mv hE rfl
                      clear hE
                      refine doneK ?_
                      refine regO ?_
                      refine opsP T hS 4 (sp := []) (ks := [0, 4, 5, 7, 16, 17, 18, 82, 84, 85]) (bs := [8]) (sy' := ⟨[(0, V (.slice a1 l_.length c1)), (4, V (.map (some r101))), (5, V (.map (some r105))), (7, Pt 8 0), (16, V (.slice a1 l_.length c1)), (17, I ((l_.length : Nat) : Int)), (18, I x_116), (82, V (.map (some r105))), (84, I ((gi l_ x_116).Prc)), (85, V (.agg #[.int .i64 ((gi l_ x_116).Prc), .int .i64 ((gi l_ x_116).Kind), .int .i64 ((gi l_ x_116).Start), .int .i64 ((gi l_ x_116).End), .int .i64 ((gi l_ x_116).Result)]))], [(8, (54, [I ((gi l_ x_116).Prc), I ((gi l_ x_116).Kind), I ((gi l_ x_116).Start), I ((gi l_ x_116).End), I ((gi l_ x_116).Result)]))]⟩) (by kernel_rfl) ?_
                      intro a hS
                      refine op1 (mset kI tApi_Oper true (v := V (.agg #[.int .i64 ((gi l_ x_116).Prc), .int .i64 ((gi l_ x_116).Kind), .int .i64 ((gi l_ x_116).Start), .int .i64 ((gi l_ x_116).End), .int .i64 ((gi l_ x_116).Result)])) (u := (gi l_ x_116)) ((gi l_ x_116).Prc) hS (by kernel_rfl) (by kernel_rfl) (by kernel_rfl) (by kernel_rfl) Try.underlying88 Try.underlying3 (by kernel_rfl) h137 ⟨_, rfl, rfl⟩ ?_)
                      intro a w143 hE h144 hS
                      clear h137
                      replace hO := hO.mv hE rfl rfl
                      replace h135 := h135.mv hE rfl
                      replace h138 := h138.mv hE rfl
                      replace h142 := h142.mv hE rfl rfl
                      clear hE
                      refine doneK ?_
                      refine regP T hS (sp := []) (ks := [0, 4, 5, 7, 16, 17, 18, 88]) (bs := [8]) (sy' := ⟨[(0, V (.slice a1 l_.length c1)), (4, V (.map (some r101))), (5, V (.map (some r105))), (7, Pt 8 0), (16, V (.slice a1 l_.length c1)), (17, I ((l_.length : Nat) : Int)), (18, I x_116), (88, B (decide (((gi l_ x_116).End) ≥ 0)))], [(8, (54, [I ((gi l_ x_116).Prc), I ((gi l_ x_116).Kind), I ((gi l_ x_116).Start), I ((gi l_ x_116).End), I ((gi l_ x_116).Result)]))]⟩) (by kernel_rfl) ?_
                      intro a hS
                      refine wcond hS (b := decide (((gi l_ x_116).End) ≥ 0)) (by kernel_rfl) (fun hb => ?_) (fun hb => ?_)
                      · replace hm := hm.1 hb
                        refine region ?_
                        refine opsP T hS 3 (sp := []) (ks := [0, 4, 5, 16, 17, 18, 89, 91]) (bs := []) (sy' := ⟨[(0, V (.slice a1 l_.length c1)), (4, V (.map (some r101))), (5, V (.map (some r105))), (16, V (.slice a1 l_.length c1)), (17, I ((l_.length : Nat) : Int)), (18, I x_116), (89, V (.map (some r101))), (91, I ((gi l_ x_116).End))], []⟩) (by kernel_rfl) ?_
                        intro a hS
                        refine op1 (mlook kI tI false (zv := .int .i64 0) (z := 0) ((gi l_ x_116).End) hS (by kernel_rfl) (by kernel_rfl) (by kernel_rfl) (by kernel_rfl) Try.underlying85 Try.underlying3 (by kernel_rfl) rfl h142 ?_)
                        intro v145 a hv hS
                        replace hv : tI.R _ _ [v145] _ := hv
                        cases hv
                        refine opsP T hS 1 (sp := []) (ks := [0, 4, 5, 16, 17, 18, 89, 91, 93]) (bs := []) (sy' := ⟨[(0, V (.slice a1 l_.length c1)), (4, V (.map (some r101))), (5, V (.map (some r105))), (16, V (.slice a1 l_.length c1)), (17, I ((l_.length : Nat) : Int)), (18, I x_116), (89, V (.map (some r101))), (91, I ((gi l_ x_116).End)), (93, I (IntKind.i64.wrap (((mget (mput used_111 ((gi l_ x_116).Start) (IntKind.i64.wrap (((mget used_111 ((gi l_ x_116).Start)).getD 0) + 1))) ((gi l_ x_116).End)).getD 0) + 1)))], []⟩) (by kernel_rfl) ?_
                        intro a hS
                        refine op1 (mset kI tI false (v := I (IntKind.i64.wrap (((mget (mput used_111 ((gi l_ x_116).Start) (IntKind.i64.wrap (((mget used_111 ((gi l_ x_116).Start)).getD 0) + 1))) ((gi l_ x_116).End)).getD 0) + 1))) (u := IntKind.i64.wrap (((mget (mput used_111 ((gi l_ x_116).Start) (IntKind.i64.wrap (((mget used_111 ((gi l_ x_116).Start)).getD 0) + 1))) ((gi l_ x_116).End)).getD 0) + 1)) ((gi l_ x_116).End) hS (by kernel_rfl) (by kernel_rfl) (by kernel_rfl) (by kernel_rfl) Try.underlying85 Try.underlying3 (by kernel_rfl) h142 rfl ?_)
                        intro a w146 hE h147 hS
                        clear h142
                        replace hO := hO.mv hE rfl rfl
                        replace h135 := h135.mv hE rfl
                        replace h138 := h138.mv hE rfl
                        replace h144 := h144.mv hE rfl rfl
                        clear hE
                        refine doneK ?_
                        exact ⟨ρ, _, mput (mput used_111 ((gi l_ x_116).Start) (IntKind.i64.wrap (((mget used_111 ((gi l_ x_116).Start)).getD 0) + 1))) ((gi l_ x_116).End) (IntKind.i64.wrap (((mget (mput used_111 ((gi l_ x_116).Start) (IntKind.i64.wrap (((mget used_111 ((gi l_ x_116).Start)).getD 0) + 1))) ((gi l_ x_116).End)).getD 0) + 1)), hm, hS.sel [0, 4, 5, 16, 17, 18] [] (by kernel_rfl), hO, h135, h147, h144, h138⟩
                      · replace hm := hm.2 hb
                        refine wskip ?_
                        exact ⟨ρ, _, mput used_111 ((gi l_ x_116).Start) (IntKind.i64.wrap (((mget used_111 ((gi l_ x_116).Start)).getD 0) + 1)), hm, hS.sel [0, 4, 5, 16, 17, 18] [] (by kernel_rfl), hO, h135, h142, h144, h138⟩
          · rintro a w172 ⟨ρ, χ171, used_118, hm, hS, hO, h117, h119, h120, h121⟩
            unfold VC32_J2 at hm
            refine region (endP T hS (sp := []) (ks := [0, 4, 5, 16, 17, 18]) (bs := []) (sy' := ⟨[(0, V (.slice a1 l_.length c1)), (4, V (.map (some r101))), (5, V (.map (some r105))), (16, V (.slice a1 l_.length c1)), (17, I ((l_.length : Nat) : Int)), (18, I (IntKind.i64.wrap (x_116 + 1)))], []⟩) (by kernel_rfl) ?_)
            intro a hS
            exact ⟨⟨used_118, mput latest_113 ((gi l_ x_116).Prc) (gi l_ x_116), IntKind.i64.wrap (x_116 + 1)⟩, ⟨ρ, _, hm.1, hS.sel [0, 4, 5, 16, 17, 18] [] (by kernel_rfl), hO, h117, h119, h120, h121⟩, hm.2⟩
        · replace hm := hm.2 hb
          refine wexit (by rfl) ?_
          exact ⟨ρ, _, hm, hS.sel [0] [] (by kernel_rfl), hO, h110⟩
    · rintro a w176 ⟨ρ, χ175, hm, hS, hO, h109⟩
      unfold VC32_J1 at hm
      refine regP T hS (sp := []) (ks := [2, 3]) (bs := []) (sy' := ⟨[(2, I ((l_.length : Nat) : Int)), (3, I 0)], []⟩) (by kernel_rfl) ?_
      intro a hS
      refine wret ?_
      exact fin T hS hO (fun c => c) rfl (r := [.int .i64 ((l_.length : Nat) : Int), .int .i64 0]) (by kernel_rfl) (fun χ' hM hC => ⟨(((l_.length : Nat) : Int), 0), hm, rfl⟩)
theorem C32 (k53 : S53) (k56 : S56) (v : ∀ (l_ : List Api_Oper), VC32 l_ (fun r => r = oper_Check l_)) : S32 := by
  intro w χ l_ a1 c1   h1
  refine (W32 k53 k56 w χ l_ a1 c1   _ (v l_) h1).mono ?_
  rintro _ _ _ _ ⟨r, rfl, h⟩
  exact h
def S49 : Prop := ∀ (w : World) (χ : Nat → Nat) (o_ : Api_Object) (l_ : List Api_Oper) (picks : List Api_Pick) (a1 : Option Addr) (c1 : Nat) (a2 : Option Addr) (c2 : Nat) (a3 : Option Addr) (c3 : Nat), preO2 o_ l_ picks → RS tApi_Row w χ a1 o_.Rows c1 → RS tApi_Oper w χ a2 l_ c2 → RS tApi_Pick w χ a3 picks c3 → Ret Try.prog 49 #[.agg #[.int .i64 o_.States, .int .i64 o_.Kinds, .int .i64 o_.Init, .slice a1 o_.Rows.length c1], .slice a2 l_.length c2, .slice a3 picks.length c3] xnone w χ (fun w χ' v => v = .tuple #[.int .i64 ((witness_Check o_ l_ picks).1), .int .i64 ((witness_Check o_ l_ picks).2)])
theorem hb49 : hasBody Try.prog 49 = true := by kernel_rfl
/-- replevin/witness.Check -/
theorem W49 (k14 : S14) (k27 : S27) (k28 : S28) (k31 : S31) (k32 : S32) (w0 : World) (χ0 : Nat → Nat) (o_ : Api_Object) (l_ : List Api_Oper) (picks : List Api_Pick) (a1 : Option Addr) (c1 : Nat) (a2 : Option Addr) (c2 : Nat) (a3 : Option Addr) (c3 : Nat) (Q : Int × Int → Prop) (hm : VC49 o_ l_ picks Q) (h1 : RS tApi_Row w0 χ0 a1 o_.Rows c1) (h2 : RS tApi_Oper w0 χ0 a2 l_ c2) (h3 : RS tApi_Pick w0 χ0 a3 picks c3) :
    Ret Try.prog 49 #[.agg #[.int .i64 o_.States, .int .i64 o_.Kinds, .int .i64 o_.Init, .slice a1 o_.Rows.length c1], .slice a2 l_.length c2, .slice a3 picks.length c3] xnone w0 χ0 (fun w χ' v => ∃ r, Q r ∧ v = .tuple #[.int .i64 r.1, .int .i64 r.2]) := by
  unfold VC49 at hm
  replace hm := hm (h1.sm (by kernel_rfl))
  replace hm := hm (h2.sm (by kernel_rfl))
  replace hm := hm (h3.sm (by kernel_rfl))
  refine enter Try.func49 rfl (vals := [.agg #[.int .i64 o_.States, .int .i64 o_.Kinds, .int .i64 o_.Init, .slice a1 o_.Rows.length c1], .slice a2 l_.length c2, .slice a3 picks.length c3]) (by kernel_rfl) ?_
  intro ρ a hS hO hM
  replace h1 := h1.m0 hM
  replace h2 := h2.m0 hM
  replace h3 := h3.m0 hM
  clear hM
  refine regM T hS (sp := []) (ks := [1, 2, 3]) (bs := [4]) (sy' := ⟨[(1, V (.slice a2 l_.length c2)), (2, V (.slice a3 picks.length c3)), (3, Pt 4 0)], [(4, (24, [I o_.States, I o_.Kinds, I o_.Init, V (.slice a1 o_.Rows.length c1)]))]⟩) (by kernel_rfl) ?_
  intro ρ a w127 χ128 hS hE hr
  replace hO := hO.mv hE rfl rfl
  replace h1 := h1.mv hE rfl
  replace h2 := h2.mv hE rfl
  replace h3 := h3.mv hE rfl
  clear hE hr
  refine regO ?_
  refine opsP T hS 1 (sp := []) (ks := [1, 2, 3, 18]) (bs := [4]) (sy' := ⟨[(1, V (.slice a2 l_.length c2)), (2, V (.slice a3 picks.length c3)), (3, Pt 4 0), (18, V (.agg #[.int .i64 o_.States, .int .i64 o_.Kinds, .int .i64 o_.Init, .slice a1 o_.Rows.length c1]))], [(4, (24, [I o_.States, I o_.Kinds, I o_.Init, V (.slice a1 o_.Rows.length c1)]))]⟩) (by kernel_rfl) ?_
  intro a hS
  obtain ⟨hq, hm⟩ := hm
  refine op1 (call hS (by kernel_rfl) (by kernel_rfl) hb31 (by kernel_rfl) (fun _ _ => rfl) (k31 _ _ o_ a1 c1 hq h1) ?_)
  intro v101 a w102 χ103 hE hp hS
  clear hq
  replace hO := hO.mv hE rfl rfl
  replace h1 := h1.mv hE rfl
  replace h2 := h2.mv hE rfl
  replace h3 := h3.mv hE rfl
  clear hE
  obtain ⟨r104, hr⟩ : ∃ r, object_Check o_ = r := ⟨_, rfl⟩
  replace hm := hm r104 hr
  rw [hr] at hp
  clear hr
  subst hp
  refine endP T hS (sp := []) (ks := [1, 2, 3, 9]) (bs := [4]) (sy' := ⟨[(1, V (.slice a2 l_.length c2)), (2, V (.slice a3 picks.length c3)), (3, Pt 4 0), (9, I r104.2)], [(4, (24, [I o_.States, I o_.Kinds, I o_.Init, V (.slice a1 o_.Rows.length c1)]))]⟩) (by kernel_rfl) ?_
  intro a hS
  refine regO ?_
  refine opsP T hS 1 (sp := []) (ks := [1, 2, 3, 9, 23]) (bs := [4]) (sy' := ⟨[(1, V (.slice a2 l_.length c2)), (2, V (.slice a3 picks.length c3)), (3, Pt 4 0), (9, I r104.2), (23, V (.slice a2 l_.length c2))], [(4, (24, [I o_.States, I o_.Kinds, I o_.Init, V (.slice a1 o_.Rows.length c1)]))]⟩) (by kernel_rfl) ?_
  intro a hS
  refine op1 (call hS (by kernel_rfl) (by kernel_rfl) hb32 (by kernel_rfl) (fun _ _ => rfl) (k32 _ _ l_ a2 c2 h2) ?_)
  intro v105 a w106 χ107 hE hp hS
  replace hO := hO.mv hE rfl rfl
  replace h1 := h1.mv hE rfl
  replace h2 := h2.mv hE rfl
  replace h3 := h3.mv hE rfl
  clear hE
  obtain ⟨r108, hr⟩ : ∃ r, oper_Check l_ = r := ⟨_, rfl⟩
  replace hm := hm r108 hr
  rw [hr] at hp
  clear hr
  subst hp
  refine endP T hS (sp := []) (ks := [1, 2, 3, 9, 11]) (bs := [4]) (sy' := ⟨[(1, V (.slice a2 l_.length c2)), (2, V (.slice a3 picks.length c3)), (3, Pt 4 0), (9, I r104.2), (11, I r108.2)], [(4, (24, [I o_.States, I o_.Kinds, I o_.Init, V (.slice a1 o_.Rows.length c1)]))]⟩) (by kernel_rfl) ?_
  intro a hS
  refine wseq ?_
  refine regP T hS (sp := [29]) (ks := [1, 2, 3, 32]) (bs := [4]) (sy' := ⟨[(1, V (.slice a2 l_.length c2)), (2, V (.slice a3 picks.length c3)), (3, Pt 4 0), (32, B ((r104.2 != 0) || (r108.2 != 0)))], [(4, (24, [I o_.States, I o_.Kinds, I o_.Init, V (.slice a1 o_.Rows.length c1)]))]⟩) (by kernel_rfl) ?_
  intro a hS
  refine wcond hS (b := ((r104.2 != 0) || (r108.2 != 0))) (by kernel_rfl) (fun hb => ?_) (fun hb => ?_)
  · replace hm := hm.1 hb
    refine regP T hS (sp := []) (ks := [6, 7]) (bs := []) (sy' := ⟨[(6, I (-1)), (7, I 2)], []⟩) (by kernel_rfl) ?_
    intro a hS
    refine wret ?_
    exact fin T hS hO (fun c => c) rfl (r := [.int .i64 (-1), .int .i64 2]) (by kernel_rfl) (fun χ' hM hC => ⟨((-1), 2), hm, rfl⟩)
  · replace hm := hm.2 hb
    refine wskip ?_
    refine wseq ?_
    refine regO ?_
    refine opsP T hS 3 (sp := []) (ks := [1, 2, 34, 35, 36]) (bs := []) (sy' := ⟨[(1, V (.slice a2 l_.length c2)), (2, V (.slice a3 picks.length c3)), (34, V (.agg #[.int .i64 o_.States, .int .i64 o_.Kinds, .int .i64 o_.Init, .slice a1 o_.Rows.length c1])), (35, V (.slice a2 l_.length c2)), (36, V (.slice a3 picks.length c3))], []⟩) (by kernel_rfl) ?_
    intro a hS
    obtain ⟨hq, hm⟩ := hm
    refine op1 (call hS (by kernel_rfl) (by kernel_rfl) hb14 (by kernel_rfl) (fun _ _ => rfl) (k14 _ _ o_ l_ picks a1 c1 a2 c2 a3 c3 hq h1 h2 h3) ?_)
    intro v109 a w110 χ111 hE hp hS
    clear hq
    replace hO := hO.mv hE rfl rfl
    replace h1 := h1.mv hE rfl
    replace h2 := h2.mv hE rfl
    replace h3 := h3.mv hE rfl
    clear hE
    obtain ⟨r112, hr⟩ : ∃ r, run_Picks o_ l_ picks = r := ⟨_, rfl⟩
    replace hm := hm r112 hr
    rw [hr] at hp
    clear hr
    subst hp
    refine endP T hS (sp := []) (ks := [1, 2, 13, 14]) (bs := []) (sy' := ⟨[(1, V (.slice a2 l_.length c2)), (2, V (.slice a3 picks.length c3)), (13, I r112.2.1), (14, I r112.2.2)], []⟩) (by kernel_rfl) ?_
    intro a hS
    refine regP T hS (sp := []) (ks := [1, 2, 13, 14, 42]) (bs := []) (sy' := ⟨[(1, V (.slice a2 l_.length c2)), (2, V (.slice a3 picks.length c3)), (13, I r112.2.1), (14, I r112.2.2), (42, B (r112.2.2 != 0))], []⟩) (by kernel_rfl) ?_
    intro a hS
    refine wcond hS (b := (r112.2.2 != 0)) (by kernel_rfl) (fun hb => ?_) (fun hb => ?_)
    · replace hm := hm.1 hb
      refine regP T hS (sp := []) (ks := [6, 7]) (bs := []) (sy' := ⟨[(6, I r112.2.1), (7, I r112.2.2)], []⟩) (by kernel_rfl) ?_
      intro a hS
      refine wret ?_
      exact fin T hS hO (fun c => c) rfl (r := [.int .i64 r112.2.1, .int .i64 r112.2.2]) (by kernel_rfl) (fun χ' hM hC => ⟨(r112.2.1, r112.2.2), hm, rfl⟩)
    · replace hm := hm.2 hb
      refine wskip ?_
      refine wseq ?_
      refine regO ?_
      refine opsP T hS 2 (sp := []) (ks := [1, 2, 45, 46]) (bs := []) (sy' := ⟨[(1, V (.slice a2 l_.length c2)), (2, V (.slice a3 picks.length c3)), (45, V (.slice a2 l_.length c2)), (46, V (.slice a3 picks.length c3))], []⟩) (by kernel_rfl) ?_
      intro a hS
      refine op1 (call hS (by kernel_rfl) (by kernel_rfl) hb28 (by kernel_rfl) (fun _ _ => rfl) (k28 _ _ l_ picks a2 c2 a3 c3 h2 h3) ?_)
      intro v113 a w114 χ115 hE hp hS
      replace hO := hO.mv hE rfl rfl
      replace h2 := h2.mv hE rfl
      replace h3 := h3.mv hE rfl
      clear hE
      obtain ⟨r116, hr⟩ : ∃ r, witness_Order l_ picks = r := ⟨_, rfl⟩
      replace hm := hm r116 hr
      rw [hr] at hp
      clear hr
      subst hp
      refine endP T hS (sp := []) (ks := [1, 2, 15]) (bs := []) (sy' := ⟨[(1, V (.slice a2 l_.length c2)), (2, V (.slice a3 picks.length c3)), (15, I r116)], []⟩) (by kernel_rfl) ?_
      intro a hS
      refine regP T hS (sp := []) (ks := [1, 2, 15, 49]) (bs := []) (sy' := ⟨[(1, V (.slice a2 l_.length c2)), (2, V (.slice a3 picks.length c3)), (15, I r116), (49, B (decide (r116 ≥ 0)))], []⟩) (by kernel_rfl) ?_
      intro a hS
      refine wcond hS (b := decide (r116 ≥ 0)) (by kernel_rfl) (fun hb => ?_) (fun hb => ?_)
      · replace hm := hm.1 hb
        refine regP T hS (sp := []) (ks := [6, 7]) (bs := []) (sy' := ⟨[(6, I r116), (7, I 42)], []⟩) (by kernel_rfl) ?_
        intro a hS
        refine wret ?_
        exact fin T hS hO (fun c => c) rfl (r := [.int .i64 r116, .int .i64 42]) (by kernel_rfl) (fun χ' hM hC => ⟨(r116, 42), hm, rfl⟩)
      · replace hm := hm.2 hb
        refine wskip ?_
        refine wseq ?_
        refine regO ?_
        refine opsP T hS 2 (sp := []) (ks := [2, 51, 52]) (bs := []) (sy' := ⟨[(2, V (.slice a3 picks.length c3)), (51, V (.slice a2 l_.length c2)), (52, V (.slice a3 picks.length c3))], []⟩) (by kernel_rfl) ?_
        intro a hS
        obtain ⟨hq, hm⟩ := hm
        refine op1 (call hS (by kernel_rfl) (by kernel_rfl) hb27 (by kernel_rfl) (fun _ _ => rfl) (k27 _ _ l_ picks a2 c2 a3 c3 hq h2 h3) ?_)
        intro v117 a w118 χ119 hE hp hS
        clear hq
        replace hO := hO.mv hE rfl rfl
        replace h2 := h2.mv hE rfl
        replace h3 := h3.mv hE rfl
        clear hE
        obtain ⟨a121, c122, hp, h123⟩ := hp
        obtain ⟨r120, hr⟩ : ∃ r, witness_Missing l_ picks = r := ⟨_, rfl⟩
        replace hm := hm r120 hr
        rw [hr] at hp h123
        clear hr
        subst hp
        replace hm := hm (h123.sm (by kernel_rfl))
        refine endP T hS (sp := []) (ks := [2, 16]) (bs := []) (sy' := ⟨[(2, V (.slice a3 picks.length c3)), (16, V (.slice a121 r120.length c122))], []⟩) (by kernel_rfl) ?_
        intro a hS
        refine regP T hS (sp := []) (ks := [2, 16, 56]) (bs := []) (sy' := ⟨[(2, V (.slice a3 picks.length c3)), (16, V (.slice a121 r120.length c122)), (56, B (decide (((r120.length : Nat) : Int) > 0)))], []⟩) (by kernel_rfl) ?_
        intro a hS
        refine wcond hS (b := decide (((r120.length : Nat) : Int) > 0)) (by kernel_rfl) (fun hb => ?_) (fun hb => ?_)
        · replace hm := hm.1 hb
          refine regO ?_
          refine opsP T hS 1 (sp := []) (ks := [57]) (bs := []) (sy' := ⟨[(57, V (.slice a121 r120.length c122))], []⟩) (by kernel_rfl) ?_
          intro a hS
          obtain ⟨hq, hm⟩ := hm
          refine op1 (index (e := 3) (k := .i64) T hS (by kernel_rfl) (by kernel_rfl) (by kernel_rfl) (by kernel_rfl) h123 (by kernel_rfl) (by kernel_rfl) hq.1 hq.2 ?_)
          intro A124 a h125 hS
          clear hq
          refine op1 (load1 T hS (by kernel_rfl) (by kernel_rfl) (by kernel_rfl) h125 rfl (by kernel_rfl) ?_)
          intro v126 a hv hS
          cases hv
          refine endP T hS (sp := []) (ks := [6, 7]) (bs := []) (sy' := ⟨[(6, I (gi r120 0)), (7, I 41)], []⟩) (by kernel_rfl) ?_
          intro a hS
          refine wret ?_
          exact fin T hS hO (fun c => c) rfl (r := [.int .i64 (gi r120 0), .int .i64 41]) (by kernel_rfl) (fun χ' hM hC => ⟨(gi r120 0, 41), hm, rfl⟩)
        · replace hm := hm.2 hb
          refine wskip ?_
          refine regP T hS (sp := []) (ks := [6, 7]) (bs := []) (sy' := ⟨[(6, I ((picks.length : Nat) : Int)), (7, I 0)], []⟩) (by kernel_rfl) ?_
          intro a hS
          refine wret ?_
          exact fin T hS hO (fun c => c) rfl (r := [.int .i64 ((picks.length : Nat) : Int), .int .i64 0]) (by kernel_rfl) (fun χ' hM hC => ⟨(((picks.length : Nat) : Int), 0), hm, rfl⟩)
theorem C49 (k14 : S14) (k27 : S27) (k28 : S28) (k31 : S31) (k32 : S32) (v : ∀ (o_ : Api_Object) (l_ : List Api_Oper) (picks : List Api_Pick), preO2 o_ l_ picks → VC49 o_ l_ picks (fun r => r = witness_Check o_ l_ picks)) : S49 := by
  intro w χ o_ l_ picks a1 c1 a2 c2 a3 c3   hp h1 h2 h3
  refine (W49 k14 k27 k28 k31 k32 w χ o_ l_ picks a1 c1 a2 c2 a3 c3   _ (v o_ l_ picks hp) h1 h2 h3).mono ?_
  rintro _ _ _ _ ⟨r, rfl, h⟩
  exact h
def S25 : Prop := ∀ (w : World) (χ : Nat → Nat) (o_ : Api_Object) (l_ : List Api_Oper) (picks : List Api_Pick) (a1 : Option Addr) (c1 : Nat) (a2 : Option Addr) (c2 : Nat) (a3 : Option Addr) (c3 : Nat), preO2 o_ l_ picks → RS tApi_Row w χ a1 o_.Rows c1 → RS tApi_Oper w χ a2 l_ c2 → RS tApi_Pick w χ a3 picks c3 → Ret Try.prog 25 #[.agg #[.int .i64 o_.States, .int .i64 o_.Kinds, .int .i64 o_.Init, .slice a1 o_.Rows.length c1], .slice a2 l_.length c2, .slice a3 picks.length c3] xnone w χ (fun w χ' v => v = .bool (witness_Is o_ l_ picks))
theorem hb25 : hasBody Try.prog 25 = true := by kernel_rfl
/-- replevin/witness.Is -/
theorem W25 (k49 : S49) (w0 : World) (χ0 : Nat → Nat) (o_ : Api_Object) (l_ : List Api_Oper) (picks : List Api_Pick) (a1 : Option Addr) (c1 : Nat) (a2 : Option Addr) (c2 : Nat) (a3 : Option Addr) (c3 : Nat) (Q : Bool → Prop) (hm : VC25 o_ l_ picks Q) (h1 : RS tApi_Row w0 χ0 a1 o_.Rows c1) (h2 : RS tApi_Oper w0 χ0 a2 l_ c2) (h3 : RS tApi_Pick w0 χ0 a3 picks c3) :
    Ret Try.prog 25 #[.agg #[.int .i64 o_.States, .int .i64 o_.Kinds, .int .i64 o_.Init, .slice a1 o_.Rows.length c1], .slice a2 l_.length c2, .slice a3 picks.length c3] xnone w0 χ0 (fun w χ' v => ∃ r, Q r ∧ v = .bool r) := by
  unfold VC25 at hm
  replace hm := hm (h1.sm (by kernel_rfl))
  replace hm := hm (h2.sm (by kernel_rfl))
  replace hm := hm (h3.sm (by kernel_rfl))
  refine enter Try.func25 rfl (vals := [.agg #[.int .i64 o_.States, .int .i64 o_.Kinds, .int .i64 o_.Init, .slice a1 o_.Rows.length c1], .slice a2 l_.length c2, .slice a3 picks.length c3]) (by kernel_rfl) ?_
  intro ρ a hS hO hM
  replace h1 := h1.m0 hM
  replace h2 := h2.m0 hM
  replace h3 := h3.m0 hM
  clear hM
  refine regM T hS (sp := []) (ks := [1, 2, 3]) (bs := [4]) (sy' := ⟨[(1, V (.slice a2 l_.length c2)), (2, V (.slice a3 picks.length c3)), (3, Pt 4 0)], [(4, (24, [I o_.States, I o_.Kinds, I o_.Init, V (.slice a1 o_.Rows.length c1)]))]⟩) (by kernel_rfl) ?_
  intro ρ a w105 χ106 hS hE hr
  replace hO := hO.mv hE rfl rfl
  replace h1 := h1.mv hE rfl
  replace h2 := h2.mv hE rfl
  replace h3 := h3.mv hE rfl
  clear hE hr
  refine regO ?_
  refine opsP T hS 3 (sp := []) (ks := [10, 11, 12]) (bs := []) (sy' := ⟨[(10, V (.agg #[.int .i64 o_.States, .int .i64 o_.Kinds, .int .i64 o_.Init, .slice a1 o_.Rows.length c1])), (11, V (.slice a2 l_.length c2)), (12, V (.slice a3 picks.length c3))], []⟩) (by kernel_rfl) ?_
  intro a hS
  obtain ⟨hq, hm⟩ := hm
  refine op1 (call hS (by kernel_rfl) (by kernel_rfl) hb49 (by kernel_rfl) (fun _ _ => rfl) (k49 _ _ o_ l_ picks a1 c1 a2 c2 a3 c3 hq h1 h2 h3) ?_)
  intro v101 a w102 χ103 hE hp hS
  clear hq
  replace hO := hO.mv hE rfl rfl
  replace h1 := h1.mv hE rfl
  replace h2 := h2.mv hE rfl
  replace h3 := h3.mv hE rfl
  clear hE
  obtain ⟨r104, hr⟩ : ∃ r, witness_Check o_ l_ picks = r := ⟨_, rfl⟩
  replace hm := hm r104 hr
  rw [hr] at hp
  clear hr
  subst hp
  refine endP T hS (sp := []) (ks := [8]) (bs := []) (sy' := ⟨[(8, I r104.2)], []⟩) (by kernel_rfl) ?_
  intro a hS
  refine regP T hS (sp := []) (ks := [6]) (bs := []) (sy' := ⟨[(6, B (r104.2 == 0))], []⟩) (by kernel_rfl) ?_
  intro a hS
  refine wret ?_
  exact fin T hS hO (fun c => c) rfl (r := [.bool (r104.2 == 0)]) (by kernel_rfl) (fun χ' hM hC => ⟨(r104.2 == 0), hm, rfl⟩)
theorem C25 (k49 : S49) (v : ∀ (o_ : Api_Object) (l_ : List Api_Oper) (picks : List Api_Pick), preO2 o_ l_ picks → VC25 o_ l_ picks (fun r => r = witness_Is o_ l_ picks)) : S25 := by
  intro w χ o_ l_ picks a1 c1 a2 c2 a3 c3   hp h1 h2 h3
  refine (W25 k49 w χ o_ l_ picks a1 c1 a2 c2 a3 c3   _ (v o_ l_ picks hp) h1 h2 h3).mono ?_
  rintro _ _ _ _ ⟨r, rfl, h⟩
  exact h
def S19 : Prop := ∀ (w : World) (χ : Nat → Nat) (a_ : List Int) (b_ : List Int) (a1 : Option Addr) (c1 : Nat) (a2 : Option Addr) (c2 : Nat), RS tI w χ a1 a_ c1 → RS tI w χ a2 b_ c2 → Ret Try.prog 19 #[.slice a1 a_.length c1, .slice a2 b_.length c2] xnone w χ (fun w χ' v => v = .bool (ref01_SameInts a_ b_))
theorem hb19 : hasBody Try.prog 19 = true := by kernel_rfl
/-- replevin/replevinref01.SameInts -/
theorem W19 (w0 : World) (χ0 : Nat → Nat) (a_ : List Int) (b_ : List Int) (a1 : Option Addr) (c1 : Nat) (a2 : Option Addr) (c2 : Nat) (Q : Bool → Prop) (hm : VC19 a_ b_ Q) (h1 : RS tI w0 χ0 a1 a_ c1) (h2 : RS tI w0 χ0 a2 b_ c2) :
    Ret Try.prog 19 #[.slice a1 a_.length c1, .slice a2 b_.length c2] xnone w0 χ0 (fun w χ' v => ∃ r, Q r ∧ v = .bool r) := by
  unfold VC19 at hm
  replace hm := hm (h1.sm (by kernel_rfl))
  replace hm := hm (h2.sm (by kernel_rfl))
  refine enter Try.func19 rfl (vals := [.slice a1 a_.length c1, .slice a2 b_.length c2]) (by kernel_rfl) ?_
  intro ρ a hS hO hM
  replace h1 := h1.m0 hM
  replace h2 := h2.m0 hM
  clear hM
  refine regP T hS (sp := []) (ks := [0, 1]) (bs := []) (sy' := ⟨[(0, V (.slice a1 a_.length c1)), (1, V (.slice a2 b_.length c2))], []⟩) (by kernel_rfl) ?_
  intro a hS
  refine wseq ?_
  refine regP T hS (sp := []) (ks := [0, 1, 10]) (bs := []) (sy' := ⟨[(0, V (.slice a1 a_.length c1)), (1, V (.slice a2 b_.length c2)), (10, B (((a_.length : Nat) : Int) != ((b_.length : Nat) : Int)))], []⟩) (by kernel_rfl) ?_
  intro a hS
  refine wcond hS (b := (((a_.length : Nat) : Int) != ((b_.length : Nat) : Int))) (by kernel_rfl) (fun hb => ?_) (fun hb => ?_)
  · replace hm := hm.1 hb
    refine regP T hS (sp := []) (ks := [4]) (bs := []) (sy' := ⟨[(4, B false)], []⟩) (by kernel_rfl) ?_
    intro a hS
    refine wret ?_
    exact fin T hS hO (fun c => c) rfl (r := [.bool false]) (by kernel_rfl) (fun χ' hM hC => ⟨false, hm, rfl⟩)
  · replace hm := hm.2 hb
    refine wskip ?_
    refine wcut (fun a w => ∃ (ρ : Nat → Nat) (χ : Nat → Nat), VC19_J1 Q ∧ St Try.f19.ntmps ⟨[], []⟩ ρ a w χ ∧ Old w0 χ0 w χ) ?_ ?_
    · refine regP T hS (sp := []) (ks := [0, 1, 5]) (bs := []) (sy' := ⟨[(0, V (.slice a1 a_.length c1)), (1, V (.slice a2 b_.length c2)), (5, I 0)], []⟩) (by kernel_rfl) ?_
      intro a hS
      refine wblock ?_
      obtain ⟨I1, μ1, hm0, hm⟩ := hm
      refine wloop (σ := Int) (fun s a w => ∃ (ρ : Nat → Nat) (χ : Nat → Nat), I1 s ∧ St Try.f19.ntmps ⟨[(0, V (.slice a1 a_.length c1)), (1, V (.slice a2 b_.length c2)), (5, I s)], []⟩ ρ a w χ ∧ Old w0 χ0 w χ ∧ RS tI w χ a1 a_ c1 ∧ RS tI w χ a2 b_ c2) (fun s => μ1 s) (0) ?_ ?_
      · exact ⟨ρ, _, hm0, hS.sel [0, 1, 5] [] (by kernel_rfl), hO, h1, h2⟩
      · rintro i_103 a w113 ⟨ρ, χ112, hI, hS, hO, h101, h102⟩
        replace hm := hm i_103 hI
        clear hI hm0
        refine wseq ?_
        refine regP T hS (sp := []) (ks := [0, 1, 5, 14]) (bs := []) (sy' := ⟨[(0, V (.slice a1 a_.length c1)), (1, V (.slice a2 b_.length c2)), (5, I i_103), (14, B (decide (i_103 < ((a_.length : Nat) : Int))))], []⟩) (by kernel_rfl) ?_
        intro a hS
        refine wcond hS (b := decide (i_103 < ((a_.length : Nat) : Int))) (by kernel_rfl) (fun hb => ?_) (fun hb => ?_)
        · replace hm := hm.1 hb
          refine wskip ?_
          refine wseq ?_
          refine wblock ?_
          refine drawnSX [] mixed hS ?_
          intro w104 χ105 hS hE hD hH
          replace hO := hO.mv hE rfl rfl
          replace h101 := h101.mv hE rfl
          replace h102 := h102.mv hE rfl
          clear hE
          refine take T [0, 1, 4, 5] [] [0, 1, 5, 17, 18, 21, 22] hS (by kernel_rfl) (by kernel_rfl) (by kernel_rfl) hH (listed' := #[true, true, false, false, true, true, false, false, false]) (fuel := 5) (sy' := ⟨[(0, V (.slice a1 a_.length c1)), (1, V (.slice a2 b_.length c2)), (5, I i_103), (17, V (.slice a1 a_.length c1)), (18, I i_103), (21, V (.slice a2 b_.length c2)), (22, I i_103)], []⟩) (by kernel_rfl) (by rfl) ?_
          intro a hS
          obtain ⟨hq, hm⟩ := hm
          refine dindex (e := 3) (k := .i64) T 2 hS (by kernel_rfl) (by kernel_rfl) (by kernel_rfl) (by rfl) (by kernel_rfl) hH (by kernel_rfl) (by kernel_rfl) h101 (by kernel_rfl) (by kernel_rfl) hq.1 hq.2 ?_
          intro A106 a h107 hS
          clear hq
          have h107b := h107.here
          refine dload1 T 3 hS (by kernel_rfl) (by kernel_rfl) (by kernel_rfl) (by rfl) (by kernel_rfl) hH (by kernel_rfl) h107 h107b rfl (by kernel_rfl) ?_
          intro v108 a hv hS
          cases hv
          obtain ⟨hq, hm⟩ := hm
          refine dindex (e := 3) (k := .i64) T 6 hS (by kernel_rfl) (by kernel_rfl) (by kernel_rfl) (by rfl) (by kernel_rfl) hH (by kernel_rfl) (by kernel_rfl) h102 (by kernel_rfl) (by kernel_rfl) hq.1 hq.2 ?_
          intro A109 a h110 hS
          clear hq
          have h110b := h110.here
          refine dload1 T 7 hS (by kernel_rfl) (by kernel_rfl) (by kernel_rfl) (by rfl) (by kernel_rfl) hH (by kernel_rfl) h110 h110b rfl (by kernel_rfl) ?_
          intro v111 a hv hS
          cases hv
          refine take T [8] [] [0, 1, 5, 25] hS (by kernel_rfl) (by kernel_rfl) (by kernel_rfl) hH (listed' := #[true, true, true, true, true, true, true, true, true]) (fuel := 0) (sy' := ⟨[(0, V (.slice a1 a_.length c1)), (1, V (.slice a2 b_.length c2)), (5, I i_103), (25, B ((gi a_ i_103) != (gi b_ i_103)))], []⟩) (by kernel_rfl) (by rfl) ?_
          intro a hS
          refine drawnDone (by kernel_rfl) ?_
          clear hD hH
          replace hS := hS.sel [0, 1, 5, 25] [] (sy' := ⟨[(0, V (.slice a1 a_.length c1)), (1, V (.slice a2 b_.length c2)), (5, I i_103), (25, B ((gi a_ i_103) != (gi b_ i_103)))], []⟩) (by kernel_rfl)
          refine wcond hS (b := ((gi a_ i_103) != (gi b_ i_103))) (by kernel_rfl) (fun hb => ?_) (fun hb => ?_)
          · replace hm := hm.1 hb
            refine regP T hS (sp := []) (ks := [4]) (bs := []) (sy' := ⟨[(4, B false)], []⟩) (by kernel_rfl) ?_
            intro a hS
            refine wret ?_
            exact fin T hS hO (fun c => c) rfl (r := [.bool false]) (by kernel_rfl) (fun χ' hM hC => ⟨false, hm, rfl⟩)
          · replace hm := hm.2 hb
            refine wskip ?_
            refine region (endP T hS (sp := []) (ks := [0, 1, 5]) (bs := []) (sy' := ⟨[(0, V (.slice a1 a_.length c1)), (1, V (.slice a2 b_.length c2)), (5, I (IntKind.i64.wrap (i_103 + 1)))], []⟩) (by kernel_rfl) ?_)
            intro a hS
            exact ⟨IntKind.i64.wrap (i_103 + 1), ⟨ρ, _, hm.1, hS.sel [0, 1, 5] [] (by kernel_rfl), hO, h101, h102⟩, hm.2⟩
        · replace hm := hm.2 hb
          refine wexit (by rfl) ?_
          exact ⟨ρ, _, hm, hS.sel [] [] (by kernel_rfl), hO⟩
    · rintro a w115 ⟨ρ, χ114, hm, hS, hO⟩
      unfold VC19_J1 at hm
      refine regP T hS (sp := []) (ks := [4]) (bs := []) (sy' := ⟨[(4, B true)], []⟩) (by kernel_rfl) ?_
      intro a hS
      refine wret ?_
      exact fin T hS hO (fun c => c) rfl (r := [.bool true]) (by kernel_rfl) (fun χ' hM hC => ⟨true, hm, rfl⟩)
theorem C19 (v : ∀ (a_ : List Int) (b_ : List Int), VC19 a_ b_ (fun r => r = ref01_SameInts a_ b_)) : S19 := by
  intro w χ a_ b_ a1 c1 a2 c2   h1 h2
  refine (W19 w χ a_ b_ a1 c1 a2 c2   _ (v a_ b_) h1 h2).mono ?_
  rintro _ _ _ _ ⟨r, rfl, h⟩
  exact h
def S29 : Prop := ∀ (w : World) (χ : Nat → Nat) (l_ : List Api_Oper) (picks : List Api_Pick) (a1 : Option Addr) (c1 : Nat) (a2 : Option Addr) (c2 : Nat), preT2 l_ picks → RS tApi_Oper w χ a1 l_ c1 → RS tApi_Pick w χ a2 picks c2 → Ret Try.prog 29 #[.slice a1 l_.length c1, .slice a2 picks.length c2] xnone w χ (fun w χ' v => ∃ (ra1 : Option Addr) (rc1 : Nat), v = .slice ra1 (witness_Left l_ picks).length rc1 ∧ RS tI w χ' ra1 (witness_Left l_ picks) rc1)
theorem hb29 : hasBody Try.prog 29 = true := by kernel_rfl
/-- replevin/witness.Left -/
theorem W29 (k52 : S52) (w0 : World) (χ0 : Nat → Nat) (l_ : List Api_Oper) (picks : List Api_Pick) (a1 : Option Addr) (c1 : Nat) (a2 : Option Addr) (c2 : Nat) (Q : (List Int) → Prop) (hm : VC29 l_ picks Q) (h1 : RS tApi_Oper w0 χ0 a1 l_ c1) (h2 : RS tApi_Pick w0 χ0 a2 picks c2) :
    Ret Try.prog 29 #[.slice a1 l_.length c1, .slice a2 picks.length c2] xnone w0 χ0 (fun w χ' v => ∃ r, Q r ∧ ∃ (ra1 : Option Addr) (rc1 : Nat), v = .slice ra1 r.length rc1 ∧ RS tI w χ' ra1 r rc1) := by
  unfold VC29 at hm
  replace hm := hm (h1.sm (by kernel_rfl))
  replace hm := hm (h2.sm (by kernel_rfl))
  refine enter Try.func29 rfl (vals := [.slice a1 l_.length c1, .slice a2 picks.length c2]) (by kernel_rfl) ?_
  intro ρ a hS hO hM
  replace h1 := h1.m0 hM
  replace h2 := h2.m0 hM
  clear hM
  refine regP T hS (sp := []) (ks := [0, 1]) (bs := []) (sy' := ⟨[(0, V (.slice a1 l_.length c1)), (1, V (.slice a2 picks.length c2))], []⟩) (by kernel_rfl) ?_
  intro a hS
  refine regO ?_
  refine opsP T hS 2 (sp := []) (ks := [5, 6]) (bs := []) (sy' := ⟨[(5, V (.slice a1 l_.length c1)), (6, V (.slice a2 picks.length c2))], []⟩) (by kernel_rfl) ?_
  intro a hS
  obtain ⟨hq, hm⟩ := hm
  refine op1 (call hS (by kernel_rfl) (by kernel_rfl) hb52 (by kernel_rfl) (fun _ _ => rfl) (k52 _ _ l_ picks true a1 c1 a2 c2 hq h1 h2) ?_)
  intro v101 a w102 χ103 hE hp hS
  clear hq
  replace hO := hO.mv hE rfl rfl
  replace h1 := h1.mv hE rfl
  replace h2 := h2.mv hE rfl
  clear hE
  obtain ⟨a105, c106, hp, h107⟩ := hp
  obtain ⟨r104, hr⟩ : ∃ r, witness_those l_ picks true = r := ⟨_, rfl⟩
  replace hm := hm r104 hr
  rw [hr] at hp h107
  clear hr
  subst hp
  replace hm := hm (h107.sm (by kernel_rfl))
  refine endP T hS (sp := []) (ks := [4]) (bs := []) (sy' := ⟨[(4, V (.slice a105 r104.length c106))], []⟩) (by kernel_rfl) ?_
  intro a hS
  refine wret ?_
  exact fin T hS hO (fun c => c) rfl (r := [.slice a105 r104.length c106]) (by kernel_rfl) (fun χ' hM hC => ⟨r104, hm, a105, c106, rfl, h107.m0 hM⟩)
theorem C29 (k52 : S52) (v : ∀ (l_ : List Api_Oper) (picks : List Api_Pick), preT2 l_ picks → VC29 l_ picks (fun r => r = witness_Left l_ picks)) : S29 := by
  intro w χ l_ picks a1 c1 a2 c2   hp h1 h2
  refine (W29 k52 w χ l_ picks a1 c1 a2 c2   _ (v l_ picks hp) h1 h2).mono ?_
  rintro _ _ _ _ ⟨r, rfl, h⟩
  exact h
def S50 : Prop := ∀ (w : World) (χ : Nat → Nat), Ret Try.prog 50 #[] xnone w χ (fun w χ' v => ∃ (ra1 : Option Addr) (rc1 : Nat), v = .agg #[.int .i64 law29_one.States, .int .i64 law29_one.Kinds, .int .i64 law29_one.Init, .slice ra1 law29_one.Rows.length rc1] ∧ RS tApi_Row w χ' ra1 law29_one.Rows rc1)
theorem hb50 : hasBody Try.prog 50 = true := by kernel_rfl
/-- replevin/replevinlaw29.one -/
theorem W50 (w0 : World) (χ0 : Nat → Nat) (Q : Api_Object → Prop) (hm : VC50 Q) :
    Ret Try.prog 50 #[] xnone w0 χ0 (fun w χ' v => ∃ r, Q r ∧ ∃ (ra1 : Option Addr) (rc1 : Nat), v = .agg #[.int .i64 r.States, .int .i64 r.Kinds, .int .i64 r.Init, .slice ra1 r.Rows.length rc1] ∧ RS tApi_Row w χ' ra1 r.Rows rc1) := by
  unfold VC50 at hm
  refine enter Try.func50 rfl (vals := []) (by kernel_rfl) ?_
  intro ρ a hS hO hM
  clear hM
  refine regM T hS (sp := []) (ks := [0]) (bs := [1]) (sy' := ⟨[(0, Pt 1 0)], [(1, (24, [I 0, I 0, I 0, V (.slice none 0 0)]))]⟩) (by kernel_rfl) ?_
  intro ρ a w107 χ108 hS hE hr
  replace hO := hO.mv hE rfl rfl
  clear hE hr
  refine regO ?_
  refine opsP T hS 1 (sp := []) (ks := [0, 1]) (bs := [1]) (sy' := ⟨[(0, Pt 1 0), (1, V (.agg #[.int .i64 0, .int .i64 0, .int .i64 0, .int .i64 7]))], [(1, (24, [I 0, I 0, I 0, V (.slice none 0 0)]))]⟩) (by kernel_rfl) ?_
  intro a hS
  refine op1 (lit (E := 102) (col := 0) (T := tApi_Row) (vals := [.agg #[.int .i64 0, .int .i64 0, .int .i64 0, .int .i64 7]]) (ys := [(⟨0, 0, 0, 7⟩ : Api_Row)]) T hS (by kernel_rfl) (by kernel_rfl) (by kernel_rfl) (by kernel_rfl) (by exact ⟨rfl, trivial⟩) rfl (by kernel_rfl) (by kernel_rfl) (by kernel_rfl) (by kernel_rfl) ?_)
  intro b101 a w102 χ103 hE h104 hN hS
  clear hN
  replace hO := hO.mv hE rfl rfl
  clear hE
  replace h104 := h104.rs0
  refine endM T hS (sp := []) (ks := [0]) (bs := [1]) (sy' := ⟨[(0, Pt 1 0)], [(1, (24, [I 1, I 1, I 0, V (.slice (some ⟨b101, 0, none⟩) [(⟨0, 0, 0, 7⟩ : Api_Row)].length 1)]))]⟩) (by kernel_rfl) ?_
  intro ρ a w105 χ106 hS hE hr
  replace hO := hO.mv hE rfl rfl
  replace h104 := h104.mv hE rfl
  clear hE hr
  refine wret ?_
  exact fin T hS hO (fun c => c) rfl (r := [.agg #[.int .i64 1, .int .i64 1, .int .i64 0, .slice (some ⟨b101, 0, none⟩) [(⟨0, 0, 0, 7⟩ : Api_Row)].length 1]]) (by kernel_rfl) (fun χ' hM hC => ⟨(⟨1, 1, 0, [(⟨0, 0, 0, 7⟩ : Api_Row)]⟩ : Api_Object), hm, (some ⟨b101, 0, none⟩), 1, rfl, h104.m0 hM⟩)
theorem C50 (v : ∀ (_ : Unit), VC50 (fun r => r = law29_one)) : S50 := by
  intro w χ     
  refine (W50 w χ     _ (v ())).mono ?_
  rintro _ _ _ _ ⟨r, rfl, h⟩
  exact h
def S51 : Prop := ∀ (w : World) (χ : Nat → Nat), Ret Try.prog 51 #[] xnone w χ (fun w χ' v => ∃ (ra1 : Option Addr) (rc1 : Nat), v = .slice ra1 law29_three.length rc1 ∧ RS tApi_Oper w χ' ra1 law29_three rc1)
theorem hb51 : hasBody Try.prog 51 = true := by kernel_rfl
/-- replevin/replevinlaw29.three -/
theorem W51 (w0 : World) (χ0 : Nat → Nat) (Q : (List Api_Oper) → Prop) (hm : VC51 Q) :
    Ret Try.prog 51 #[] xnone w0 χ0 (fun w χ' v => ∃ r, Q r ∧ ∃ (ra1 : Option Addr) (rc1 : Nat), v = .slice ra1 r.length rc1 ∧ RS tApi_Oper w χ' ra1 r rc1) := by
  unfold VC51 at hm
  refine enter Try.func51 rfl (vals := []) (by kernel_rfl) ?_
  intro ρ a hS hO hM
  clear hM
  refine regP T hS (sp := []) (ks := []) (bs := []) (sy' := ⟨[], []⟩) (by kernel_rfl) ?_
  intro a hS
  refine regO ?_
  refine opsP T hS 3 (sp := []) (ks := [1, 2, 3]) (bs := []) (sy' := ⟨[(1, V (.agg #[.int .i64 1, .int .i64 0, .int .i64 0, .int .i64 1, .int .i64 7])), (2, V (.agg #[.int .i64 1, .int .i64 0, .int .i64 2, .int .i64 3, .int .i64 7])), (3, V (.agg #[.int .i64 2, .int .i64 0, .int .i64 4, .int .i64 (-1), .int .i64 (-1)]))], []⟩) (by kernel_rfl) ?_
  intro a hS
  refine op1 (lit (E := 54) (col := 0) (T := tApi_Oper) (vals := [.agg #[.int .i64 1, .int .i64 0, .int .i64 0, .int .i64 1, .int .i64 7], .agg #[.int .i64 1, .int .i64 0, .int .i64 2, .int .i64 3, .int .i64 7], .agg #[.int .i64 2, .int .i64 0, .int .i64 4, .int .i64 (-1), .int .i64 (-1)]]) (ys := [(⟨1, 0, 0, 1, 7⟩ : Api_Oper), (⟨1, 0, 2, 3, 7⟩ : Api_Oper), (⟨2, 0, 4, (-1), (-1)⟩ : Api_Oper)]) T hS (by kernel_rfl) (by kernel_rfl) (by kernel_rfl) (by kernel_rfl) (by exact ⟨rfl, rfl, rfl, trivial⟩) rfl (by kernel_rfl) (by kernel_rfl) (by kernel_rfl) (by kernel_rfl) ?_)
  intro b101 a w102 χ103 hE h104 hN hS
  clear hN
  replace hO := hO.mv hE rfl rfl
  clear hE
  replace h104 := h104.rs0
  refine endP T hS (sp := []) (ks := [0]) (bs := []) (sy' := ⟨[(0, V (.slice (some ⟨b101, 0, none⟩) [(⟨1, 0, 0, 1, 7⟩ : Api_Oper), (⟨1, 0, 2, 3, 7⟩ : Api_Oper), (⟨2, 0, 4, (-1), (-1)⟩ : Api_Oper)].length 3))], []⟩) (by kernel_rfl) ?_
  intro a hS
  refine wret ?_
  exact fin T hS hO (fun c => c) rfl (r := [.slice (some ⟨b101, 0, none⟩) [(⟨1, 0, 0, 1, 7⟩ : Api_Oper), (⟨1, 0, 2, 3, 7⟩ : Api_Oper), (⟨2, 0, 4, (-1), (-1)⟩ : Api_Oper)].length 3]) (by kernel_rfl) (fun χ' hM hC => ⟨[(⟨1, 0, 0, 1, 7⟩ : Api_Oper), (⟨1, 0, 2, 3, 7⟩ : Api_Oper), (⟨2, 0, 4, (-1), (-1)⟩ : Api_Oper)], hm, (some ⟨b101, 0, none⟩), 3, rfl, h104.m0 hM⟩)
theorem C51 (v : ∀ (_ : Unit), VC51 (fun r => r = law29_three)) : S51 := by
  intro w χ     
  refine (W51 w χ     _ (v ())).mono ?_
  rintro _ _ _ _ ⟨r, rfl, h⟩
  exact h
end Go.Proofs.Ytnhdgebboafliaa
