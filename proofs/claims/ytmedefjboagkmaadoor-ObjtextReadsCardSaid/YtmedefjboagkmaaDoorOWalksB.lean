/- Walks: each function returns what its condition asks. Condition: the contracts of its callees, handed in. -/
import Derived.Test.YtmedefjboagkmaaDoorOWalks
set_option linter.all false
namespace Go.Proofs.YtmedefjboagkmaaDoor
open Go Go.Sv
set_option maxHeartbeats 1000000
def S33 : Prop := ∀ (w : World) (χ : Nat → Nat) (o_ : Api_Object) (a1 : Option Addr) (c1 : Nat), RS tApi_Row w χ a1 o_.Rows c1 → Ret Tryd.prog 33 #[.agg #[.int .i64 o_.States, .int .i64 o_.Kinds, .int .i64 o_.Init, .slice a1 o_.Rows.length c1]] xnone w χ (fun w χ' v => v = .tuple #[.int .i64 ((ref23_Check o_).1), .int .i64 ((ref23_Check o_).2)])
theorem hb33 : hasBody Tryd.prog 33 = true := by kernel_rfl
/-- replevin/replevinref23.Check -/
theorem W33 (w0 : World) (χ0 : Nat → Nat) (o_ : Api_Object) (a1 : Option Addr) (c1 : Nat) (Q : Int × Int → Prop) (hm : VC33 o_ Q) (h1 : RS tApi_Row w0 χ0 a1 o_.Rows c1) :
    Ret Tryd.prog 33 #[.agg #[.int .i64 o_.States, .int .i64 o_.Kinds, .int .i64 o_.Init, .slice a1 o_.Rows.length c1]] xnone w0 χ0 (fun w χ' v => ∃ r, Q r ∧ v = .tuple #[.int .i64 r.1, .int .i64 r.2]) := by
  unfold VC33 at hm
  replace hm := hm (h1.sm (by kernel_rfl))
  refine enter Tryd.func33 rfl (vals := [.agg #[.int .i64 o_.States, .int .i64 o_.Kinds, .int .i64 o_.Init, .slice a1 o_.Rows.length c1]]) (by kernel_rfl) ?_
  intro ρ a hS hO hM
  replace h1 := h1.m0 hM
  clear hM
  refine regM T hS (sp := []) (ks := [1]) (bs := [2]) (sy' := ⟨[(1, Pt 2 0)], [(2, (25, [I o_.States, I o_.Kinds, I o_.Init, V (.slice a1 o_.Rows.length c1)]))]⟩) (by kernel_rfl) ?_
  intro ρ a w134 χ135 hS hE hr
  replace hO := hO.mv hE rfl rfl
  replace h1 := h1.mv hE rfl
  clear hE hr
  refine wseq ?_
  refine regP T hS (sp := [9, 14, 19, 24, 29]) (ks := [1, 35]) (bs := [2]) (sy' := ⟨[(1, Pt 2 0), (35, B ((((((decide (o_.States < 1)) || (decide (o_.States > 32))) || (decide (o_.Kinds < 1))) || (decide (o_.Kinds > 64))) || (decide (o_.Init < 0))) || (decide (o_.Init ≥ o_.States))))], [(2, (25, [I o_.States, I o_.Kinds, I o_.Init, V (.slice a1 o_.Rows.length c1)]))]⟩) (by kernel_rfl) ?_
  intro a hS
  refine wcond hS (b := ((((((decide (o_.States < 1)) || (decide (o_.States > 32))) || (decide (o_.Kinds < 1))) || (decide (o_.Kinds > 64))) || (decide (o_.Init < 0))) || (decide (o_.Init ≥ o_.States)))) (by kernel_rfl) (fun hb => ?_) (fun hb => ?_)
  · replace hm := hm.1 hb
    refine regP T hS (sp := []) (ks := [2, 3]) (bs := []) (sy' := ⟨[(2, I (-1)), (3, I 2)], []⟩) (by kernel_rfl) ?_
    intro a hS
    refine wret ?_
    exact fin T hS hO (fun c => c) rfl (r := [.int .i64 (-1), .int .i64 2]) (by kernel_rfl) (fun χ' hM hC => ⟨((-1), 2), hm, rfl⟩)
  · replace hm := hm.2 hb
    refine wskip ?_
    refine wcut (fun a w => ∃ (ρ : Nat → Nat) (χ : Nat → Nat), VC33_J1 o_ Q ∧ St Tryd.f33.ntmps ⟨[(1, Pt 2 0)], [(2, (25, [I o_.States, I o_.Kinds, I o_.Init, V (.slice a1 o_.Rows.length c1)]))]⟩ ρ a w χ ∧ Old w0 χ0 w χ ∧ RS tApi_Row w χ a1 o_.Rows c1) ?_ ?_
    · refine regP T hS (sp := []) (ks := [1, 4]) (bs := [2]) (sy' := ⟨[(1, Pt 2 0), (4, I 0)], [(2, (25, [I o_.States, I o_.Kinds, I o_.Init, V (.slice a1 o_.Rows.length c1)]))]⟩) (by kernel_rfl) ?_
      intro a hS
      refine wblock ?_
      obtain ⟨I1, μ1, hm0, hm⟩ := hm
      refine wloop (σ := Int) (fun s a w => ∃ (ρ : Nat → Nat) (χ : Nat → Nat), I1 s ∧ St Tryd.f33.ntmps ⟨[(1, Pt 2 0), (4, I s)], [(2, (25, [I o_.States, I o_.Kinds, I o_.Init, V (.slice a1 o_.Rows.length c1)]))]⟩ ρ a w χ ∧ Old w0 χ0 w χ ∧ RS tApi_Row w χ a1 o_.Rows c1) (fun s => μ1 s) (0) ?_ ?_
      · exact ⟨ρ, _, hm0, hS.sel [1, 4] [2] (by kernel_rfl), hO, h1⟩
      · rintro i_102 a w131 ⟨ρ, χ130, hI, hS, hO, h103⟩
        replace hm := hm i_102 hI
        clear hI hm0
        refine wseq ?_
        refine regP T hS (sp := []) (ks := [1, 4, 40]) (bs := [2]) (sy' := ⟨[(1, Pt 2 0), (4, I i_102), (40, B (decide (i_102 < ((o_.Rows.length : Nat) : Int))))], [(2, (25, [I o_.States, I o_.Kinds, I o_.Init, V (.slice a1 o_.Rows.length c1)]))]⟩) (by kernel_rfl) ?_
        intro a hS
        refine wcond hS (b := decide (i_102 < ((o_.Rows.length : Nat) : Int))) (by kernel_rfl) (fun hb => ?_) (fun hb => ?_)
        · replace hm := hm.1 hb
          refine wskip ?_
          refine wseq ?_
          refine wblock ?_
          refine regO ?_
          refine opsP T hS 3 (sp := []) (ks := [1, 4, 44, 45]) (bs := [2]) (sy' := ⟨[(1, Pt 2 0), (4, I i_102), (44, V (.slice a1 o_.Rows.length c1)), (45, I i_102)], [(2, (25, [I o_.States, I o_.Kinds, I o_.Init, V (.slice a1 o_.Rows.length c1)]))]⟩) (by kernel_rfl) ?_
          intro a hS
          obtain ⟨hq, hm⟩ := hm
          refine op1 (index (e := 66) (k := .i64) T hS (by kernel_rfl) (by kernel_rfl) (by kernel_rfl) (by kernel_rfl) h103 (by kernel_rfl) (by kernel_rfl) hq.1 hq.2 ?_)
          intro A104 a h105 hS
          clear hq
          refine op1 (loadA T hS (by kernel_rfl) (by kernel_rfl) (by kernel_rfl) h105 (by kernel_rfl) (by kernel_rfl) ?_)
          intro v106 a hv hS
          subst hv
          refine endM T hS (sp := []) (ks := [1, 4, 5]) (bs := [2, 6]) (sy' := ⟨[(1, Pt 2 0), (4, I i_102), (5, Pt 6 0)], [(2, (25, [I o_.States, I o_.Kinds, I o_.Init, V (.slice a1 o_.Rows.length c1)])), (6, (66, [I ((gi o_.Rows i_102).State), I ((gi o_.Rows i_102).Kind), I ((gi o_.Rows i_102).Next), I ((gi o_.Rows i_102).Result)]))]⟩) (by kernel_rfl) ?_
          intro ρ a w128 χ129 hS hE hr
          replace hO := hO.mv hE rfl rfl
          replace h103 := h103.mv hE rfl
          clear hE hr
          refine wseq ?_
          refine regP T hS (sp := [51, 58, 63]) (ks := [1, 4, 5, 69]) (bs := [2, 6]) (sy' := ⟨[(1, Pt 2 0), (4, I i_102), (5, Pt 6 0), (69, B ((((decide (((gi o_.Rows i_102).State) < 0)) || (decide (((gi o_.Rows i_102).State) ≥ o_.States))) || (decide (((gi o_.Rows i_102).Next) < 0))) || (decide (((gi o_.Rows i_102).Next) ≥ o_.States))))], [(2, (25, [I o_.States, I o_.Kinds, I o_.Init, V (.slice a1 o_.Rows.length c1)])), (6, (66, [I ((gi o_.Rows i_102).State), I ((gi o_.Rows i_102).Kind), I ((gi o_.Rows i_102).Next), I ((gi o_.Rows i_102).Result)]))]⟩) (by kernel_rfl) ?_
          intro a hS
          refine wcond hS (b := ((((decide (((gi o_.Rows i_102).State) < 0)) || (decide (((gi o_.Rows i_102).State) ≥ o_.States))) || (decide (((gi o_.Rows i_102).Next) < 0))) || (decide (((gi o_.Rows i_102).Next) ≥ o_.States)))) (by kernel_rfl) (fun hb => ?_) (fun hb => ?_)
          · replace hm := hm.1 hb
            refine regP T hS (sp := []) (ks := [2, 3]) (bs := []) (sy' := ⟨[(2, I i_102), (3, I 30)], []⟩) (by kernel_rfl) ?_
            intro a hS
            refine wret ?_
            exact fin T hS hO (fun c => c) rfl (r := [.int .i64 i_102, .int .i64 30]) (by kernel_rfl) (fun χ' hM hC => ⟨(i_102, 30), hm, rfl⟩)
          · replace hm := hm.2 hb
            refine wskip ?_
            refine wseq ?_
            refine regP T hS (sp := [74]) (ks := [1, 4, 5, 80]) (bs := [2, 6]) (sy' := ⟨[(1, Pt 2 0), (4, I i_102), (5, Pt 6 0), (80, B ((decide (((gi o_.Rows i_102).Kind) < 0)) || (decide (((gi o_.Rows i_102).Kind) ≥ o_.Kinds))))], [(2, (25, [I o_.States, I o_.Kinds, I o_.Init, V (.slice a1 o_.Rows.length c1)])), (6, (66, [I ((gi o_.Rows i_102).State), I ((gi o_.Rows i_102).Kind), I ((gi o_.Rows i_102).Next), I ((gi o_.Rows i_102).Result)]))]⟩) (by kernel_rfl) ?_
            intro a hS
            refine wcond hS (b := ((decide (((gi o_.Rows i_102).Kind) < 0)) || (decide (((gi o_.Rows i_102).Kind) ≥ o_.Kinds)))) (by kernel_rfl) (fun hb => ?_) (fun hb => ?_)
            · replace hm := hm.1 hb
              refine regP T hS (sp := []) (ks := [2, 3]) (bs := []) (sy' := ⟨[(2, I i_102), (3, I 31)], []⟩) (by kernel_rfl) ?_
              intro a hS
              refine wret ?_
              exact fin T hS hO (fun c => c) rfl (r := [.int .i64 i_102, .int .i64 31]) (by kernel_rfl) (fun χ' hM hC => ⟨(i_102, 31), hm, rfl⟩)
            · replace hm := hm.2 hb
              refine wskip ?_
              refine wseq ?_
              refine regP T hS (sp := [85]) (ks := [1, 4, 5, 89]) (bs := [2, 6]) (sy' := ⟨[(1, Pt 2 0), (4, I i_102), (5, Pt 6 0), (89, B ((decide (((gi o_.Rows i_102).Result) < 0)) || (decide (((gi o_.Rows i_102).Result) > 1000000))))], [(2, (25, [I o_.States, I o_.Kinds, I o_.Init, V (.slice a1 o_.Rows.length c1)])), (6, (66, [I ((gi o_.Rows i_102).State), I ((gi o_.Rows i_102).Kind), I ((gi o_.Rows i_102).Next), I ((gi o_.Rows i_102).Result)]))]⟩) (by kernel_rfl) ?_
              intro a hS
              refine wcond hS (b := ((decide (((gi o_.Rows i_102).Result) < 0)) || (decide (((gi o_.Rows i_102).Result) > 1000000)))) (by kernel_rfl) (fun hb => ?_) (fun hb => ?_)
              · replace hm := hm.1 hb
                refine regP T hS (sp := []) (ks := [2, 3]) (bs := []) (sy' := ⟨[(2, I i_102), (3, I 7)], []⟩) (by kernel_rfl) ?_
                intro a hS
                refine wret ?_
                exact fin T hS hO (fun c => c) rfl (r := [.int .i64 i_102, .int .i64 7]) (by kernel_rfl) (fun χ' hM hC => ⟨(i_102, 7), hm, rfl⟩)
              · replace hm := hm.2 hb
                refine wskip ?_
                refine wcut (fun a w => ∃ (ρ : Nat → Nat) (χ : Nat → Nat) (x_107 : Bool), VC33_J2 Q I1 μ1 i_102 x_107 ∧ St Tryd.f33.ntmps ⟨[(1, Pt 2 0), (4, I i_102), (128, B x_107)], [(2, (25, [I o_.States, I o_.Kinds, I o_.Init, V (.slice a1 o_.Rows.length c1)]))]⟩ ρ a w χ ∧ Old w0 χ0 w χ ∧ RS tApi_Row w χ a1 o_.Rows c1) ?_ ?_
                · refine drawnX [2, 6] mixed hS ?_
                  intro w109 χ110 hS hE hD hH
                  replace hO := hO.mv hE rfl rfl
                  replace h103 := h103.mv hE rfl
                  clear hE
                  refine take T [0, 1, 2] [2, 6] [1, 4, 5, 93] hS (by kernel_rfl) (by kernel_rfl) (by kernel_rfl) hH (listed' := #[true, true, true, false, false, false, false, false, false, false, false, false, false, false, false, false, false, false, false, false, false, false, false, false, false, false, false, false, false, false, false, false, false, false, false, false, false, false]) (fuel := 35) (sy' := ⟨[(1, Pt 2 0), (4, I i_102), (5, Pt 6 0), (93, B (decide (i_102 > 0)))], [(2, (25, [I o_.States, I o_.Kinds, I o_.Init, V (.slice a1 o_.Rows.length c1)])), (6, (66, [I ((gi o_.Rows i_102).State), I ((gi o_.Rows i_102).Kind), I ((gi o_.Rows i_102).Next), I ((gi o_.Rows i_102).Result)]))]⟩) (by as_aux_lemma => kernel_rfl) (by rfl) ?_
                  intro a hS
                  rcases Bool.eq_false_or_eq_true (decide (i_102 > 0)) with hb | hb
                  · replace hS := hS.lit (t := 93) (by kernel_rfl) hb
                    replace hm := hm.1 hb
                    refine take T [3, 5, 10, 4, 6, 11] [2, 6] [1, 4, 5, 93, 94, 95, 96, 97, 101, 102] hS (by kernel_rfl) (by kernel_rfl) (by kernel_rfl) hH (listed' := #[true, true, true, true, true, true, true, false, false, false, true, true, false, false, false, false, false, false, false, false, false, false, false, false, false, false, false, false, false, false, false, false, false, false, false, false, false, false]) (fuel := 29) (sy' := ⟨[(1, Pt 2 0), (4, I i_102), (5, Pt 6 0), (93, B true), (94, Pt 2 3), (95, V (.slice a1 o_.Rows.length c1)), (96, I i_102), (97, I (IntKind.i64.wrap (i_102 - 1))), (101, Pt 6 0), (102, I ((gi o_.Rows i_102).State))], [(2, (25, [I o_.States, I o_.Kinds, I o_.Init, V (.slice a1 o_.Rows.length c1)])), (6, (66, [I ((gi o_.Rows i_102).State), I ((gi o_.Rows i_102).Kind), I ((gi o_.Rows i_102).Next), I ((gi o_.Rows i_102).Result)]))]⟩) (by as_aux_lemma => kernel_rfl) (by rfl) ?_
                    intro a hS
                    obtain ⟨hq, hm⟩ := hm
                    refine dindex (e := 66) (k := .i64) T 7 hS (by kernel_rfl) (by kernel_rfl) (by kernel_rfl) (by rfl) (by kernel_rfl) hH (by kernel_rfl) (by kernel_rfl) h103 (by kernel_rfl) (by kernel_rfl) hq.1 hq.2 ?_
                    intro A111 a h112 hS
                    clear hq
                    have h112b := h112.here
                    refine dfieldA (off := 0) (fsz := 1) (ft := 3) (TF := tI) (y := (gi o_.Rows (IntKind.i64.wrap (i_102 - 1))).State) 8 T hS (by kernel_rfl) (by kernel_rfl) (by kernel_rfl) (by rfl) (by kernel_rfl) hH (by kernel_rfl) h112 (by kernel_rfl) (by kernel_rfl) (by kernel_rfl) (fun cs h => Api_Row_f0 h) ?_
                    intro A113 a h114 hbl hS
                    have h114b := h112b
                    rw [← hbl] at h114b
                    clear hbl
                    refine dload1 T 9 hS (by kernel_rfl) (by kernel_rfl) (by kernel_rfl) (by rfl) (by kernel_rfl) hH (by kernel_rfl) h114 h114b rfl (by kernel_rfl) ?_
                    intro v115 a hv hS
                    cases hv
                    refine take T [12, 13] [2, 6] [1, 4, 5, 93, 94, 95, 96, 97, 98, 99, 100, 101, 102, 103, 104] hS (by kernel_rfl) (by kernel_rfl) (by kernel_rfl) hH (listed' := #[true, true, true, true, true, true, true, true, true, true, true, true, true, true, false, false, false, false, false, false, false, false, false, false, false, false, false, false, false, false, false, false, false, false, false, false, false, false]) (fuel := 24) (sy' := ⟨[(1, Pt 2 0), (4, I i_102), (5, Pt 6 0), (93, B true), (94, Pt 2 3), (95, V (.slice a1 o_.Rows.length c1)), (96, I i_102), (97, I (IntKind.i64.wrap (i_102 - 1))), (98, V (.pointer (some A111))), (99, V (.pointer (some A113))), (100, I ((gi o_.Rows (IntKind.i64.wrap (i_102 - 1))).State)), (101, Pt 6 0), (102, I ((gi o_.Rows i_102).State)), (103, B (decide (((gi o_.Rows (IntKind.i64.wrap (i_102 - 1))).State) > ((gi o_.Rows i_102).State)))), (104, B (decide (((gi o_.Rows (IntKind.i64.wrap (i_102 - 1))).State) > ((gi o_.Rows i_102).State))))], [(2, (25, [I o_.States, I o_.Kinds, I o_.Init, V (.slice a1 o_.Rows.length c1)])), (6, (66, [I ((gi o_.Rows i_102).State), I ((gi o_.Rows i_102).Kind), I ((gi o_.Rows i_102).Next), I ((gi o_.Rows i_102).Result)]))]⟩) (by as_aux_lemma => kernel_rfl) (by rfl) ?_
                    intro a hS
                    rcases Bool.eq_false_or_eq_true (decide (((gi o_.Rows (IntKind.i64.wrap (i_102 - 1))).State) > ((gi o_.Rows i_102).State))) with hb | hb
                    · replace hS := hS.lit (t := 104) (by kernel_rfl) hb
                      replace hm := hm.1 hb
                      refine take T [14, 16, 21, 15, 17, 22, 18, 19, 20, 23, 24, 25, 27, 32, 26, 28, 33, 29, 30, 31, 34, 35, 36, 37] [2, 6] [1, 4, 94, 95, 96, 97, 98, 99, 100, 101, 102, 103, 104, 105, 106, 107, 108, 109, 110, 111, 112, 113, 114, 115, 116, 117, 118, 119, 120, 121, 122, 123, 124, 125, 126, 127, 128] hS (by kernel_rfl) (by kernel_rfl) (by kernel_rfl) hH (listed' := #[true, true, true, true, true, true, true, true, true, true, true, true, true, true, true, true, true, true, true, true, true, true, true, true, true, true, true, true, true, true, true, true, true, true, true, true, true, true]) (fuel := 0) (sy' := ⟨[(1, Pt 2 0), (4, I i_102), (94, Pt 2 3), (95, V (.slice a1 o_.Rows.length c1)), (96, I i_102), (97, I (IntKind.i64.wrap (i_102 - 1))), (98, V (.pointer (some A111))), (99, V (.pointer (some A113))), (100, I ((gi o_.Rows (IntKind.i64.wrap (i_102 - 1))).State)), (101, Pt 6 0), (102, I ((gi o_.Rows i_102).State)), (103, B (decide (((gi o_.Rows (IntKind.i64.wrap (i_102 - 1))).State) > ((gi o_.Rows i_102).State)))), (104, B true), (105, V undef), (106, V undef), (107, V undef), (108, V undef), (109, V undef), (110, V undef), (111, V undef), (112, V undef), (113, V undef), (114, V undef), (115, V undef), (116, V undef), (117, V undef), (118, V undef), (119, V undef), (120, V undef), (121, V undef), (122, V undef), (123, V undef), (124, V undef), (125, V undef), (126, V undef), (127, B true), (128, B true)], [(2, (25, [I o_.States, I o_.Kinds, I o_.Init, V (.slice a1 o_.Rows.length c1)])), (6, (66, [I ((gi o_.Rows i_102).State), I ((gi o_.Rows i_102).Kind), I ((gi o_.Rows i_102).Next), I ((gi o_.Rows i_102).Result)]))]⟩) (by as_aux_lemma => kernel_rfl) (by rfl) ?_
                      intro a hS
                      refine drawnDone (by kernel_rfl) ?_
                      clear hD hH
                      replace hS := hS.sel [1, 4, 94, 95, 96, 97, 98, 99, 100, 101, 102, 103, 104, 127, 128] [2, 6] (sy' := ⟨[(1, Pt 2 0), (4, I i_102), (94, Pt 2 3), (95, V (.slice a1 o_.Rows.length c1)), (96, I i_102), (97, I (IntKind.i64.wrap (i_102 - 1))), (98, V (.pointer (some A111))), (99, V (.pointer (some A113))), (100, I ((gi o_.Rows (IntKind.i64.wrap (i_102 - 1))).State)), (101, Pt 6 0), (102, I ((gi o_.Rows i_102).State)), (103, B (decide (((gi o_.Rows (IntKind.i64.wrap (i_102 - 1))).State) > ((gi o_.Rows i_102).State)))), (104, B true), (127, B true), (128, B true)], [(2, (25, [I o_.States, I o_.Kinds, I o_.Init, V (.slice a1 o_.Rows.length c1)])), (6, (66, [I ((gi o_.Rows i_102).State), I ((gi o_.Rows i_102).Kind), I ((gi o_.Rows i_102).Next), I ((gi o_.Rows i_102).Result)]))]⟩) (by kernel_rfl)
                      exact ⟨ρ, _, true, hm, hS.sel [1, 4, 128] [2] (by kernel_rfl), hO, h103⟩
                    · replace hS := hS.lit (t := 104) (by kernel_rfl) hb
                      replace hm := hm.2 hb
                      refine take T [14, 16, 21, 15, 17, 22] [2, 6] [1, 4, 5, 93, 94, 95, 96, 97, 98, 99, 100, 101, 102, 103, 104, 105, 106, 107, 108, 112, 113] hS (by kernel_rfl) (by kernel_rfl) (by kernel_rfl) hH (listed' := #[true, true, true, true, true, true, true, true, true, true, true, true, true, true, true, true, true, true, false, false, false, true, true, false, false, false, false, false, false, false, false, false, false, false, false, false, false, false]) (fuel := 18) (sy' := ⟨[(1, Pt 2 0), (4, I i_102), (5, Pt 6 0), (93, B true), (94, Pt 2 3), (95, V (.slice a1 o_.Rows.length c1)), (96, I i_102), (97, I (IntKind.i64.wrap (i_102 - 1))), (98, V (.pointer (some A111))), (99, V (.pointer (some A113))), (100, I ((gi o_.Rows (IntKind.i64.wrap (i_102 - 1))).State)), (101, Pt 6 0), (102, I ((gi o_.Rows i_102).State)), (103, B (decide (((gi o_.Rows (IntKind.i64.wrap (i_102 - 1))).State) > ((gi o_.Rows i_102).State)))), (104, B false), (105, Pt 2 3), (106, V (.slice a1 o_.Rows.length c1)), (107, I i_102), (108, I (IntKind.i64.wrap (i_102 - 1))), (112, Pt 6 0), (113, I ((gi o_.Rows i_102).State))], [(2, (25, [I o_.States, I o_.Kinds, I o_.Init, V (.slice a1 o_.Rows.length c1)])), (6, (66, [I ((gi o_.Rows i_102).State), I ((gi o_.Rows i_102).Kind), I ((gi o_.Rows i_102).Next), I ((gi o_.Rows i_102).Result)]))]⟩) (by as_aux_lemma => kernel_rfl) (by rfl) ?_
                      intro a hS
                      obtain ⟨hq, hm⟩ := hm
                      refine dindex (e := 66) (k := .i64) T 18 hS (by kernel_rfl) (by kernel_rfl) (by kernel_rfl) (by rfl) (by kernel_rfl) hH (by kernel_rfl) (by kernel_rfl) h103 (by kernel_rfl) (by kernel_rfl) hq.1 hq.2 ?_
                      intro A116 a h117 hS
                      clear hq
                      have h117b := h117.here
                      refine dfieldA (off := 0) (fsz := 1) (ft := 3) (TF := tI) (y := (gi o_.Rows (IntKind.i64.wrap (i_102 - 1))).State) 19 T hS (by kernel_rfl) (by kernel_rfl) (by kernel_rfl) (by rfl) (by kernel_rfl) hH (by kernel_rfl) h117 (by kernel_rfl) (by kernel_rfl) (by kernel_rfl) (fun cs h => Api_Row_f0 h) ?_
                      intro A118 a h119 hbl hS
                      have h119b := h117b
                      rw [← hbl] at h119b
                      clear hbl
                      refine dload1 T 20 hS (by kernel_rfl) (by kernel_rfl) (by kernel_rfl) (by rfl) (by kernel_rfl) hH (by kernel_rfl) h119 h119b rfl (by kernel_rfl) ?_
                      intro v120 a hv hS
                      cases hv
                      refine take T [23, 24] [2, 6] [1, 4, 5, 93, 94, 95, 96, 97, 98, 99, 100, 101, 102, 103, 104, 105, 106, 107, 108, 109, 110, 111, 112, 113, 114, 115] hS (by kernel_rfl) (by kernel_rfl) (by kernel_rfl) hH (listed' := #[true, true, true, true, true, true, true, true, true, true, true, true, true, true, true, true, true, true, true, true, true, true, true, true, true, false, false, false, false, false, false, false, false, false, false, false, false, false]) (fuel := 13) (sy' := ⟨[(1, Pt 2 0), (4, I i_102), (5, Pt 6 0), (93, B true), (94, Pt 2 3), (95, V (.slice a1 o_.Rows.length c1)), (96, I i_102), (97, I (IntKind.i64.wrap (i_102 - 1))), (98, V (.pointer (some A111))), (99, V (.pointer (some A113))), (100, I ((gi o_.Rows (IntKind.i64.wrap (i_102 - 1))).State)), (101, Pt 6 0), (102, I ((gi o_.Rows i_102).State)), (103, B (decide (((gi o_.Rows (IntKind.i64.wrap (i_102 - 1))).State) > ((gi o_.Rows i_102).State)))), (104, B false), (105, Pt 2 3), (106, V (.slice a1 o_.Rows.length c1)), (107, I i_102), (108, I (IntKind.i64.wrap (i_102 - 1))), (109, V (.pointer (some A116))), (110, V (.pointer (some A118))), (111, I ((gi o_.Rows (IntKind.i64.wrap (i_102 - 1))).State)), (112, Pt 6 0), (113, I ((gi o_.Rows i_102).State)), (114, B (((gi o_.Rows (IntKind.i64.wrap (i_102 - 1))).State) == ((gi o_.Rows i_102).State))), (115, B (((gi o_.Rows (IntKind.i64.wrap (i_102 - 1))).State) == ((gi o_.Rows i_102).State)))], [(2, (25, [I o_.States, I o_.Kinds, I o_.Init, V (.slice a1 o_.Rows.length c1)])), (6, (66, [I ((gi o_.Rows i_102).State), I ((gi o_.Rows i_102).Kind), I ((gi o_.Rows i_102).Next), I ((gi o_.Rows i_102).Result)]))]⟩) (by as_aux_lemma => kernel_rfl) (by rfl) ?_
                      intro a hS
                      rcases Bool.eq_false_or_eq_true (((gi o_.Rows (IntKind.i64.wrap (i_102 - 1))).State) == ((gi o_.Rows i_102).State)) with hb | hb
                      · replace hS := hS.lit (t := 115) (by kernel_rfl) hb
                        replace hm := hm.1 hb
                        refine take T [25, 27, 32, 26, 28, 33] [2, 6] [1, 4, 93, 94, 95, 96, 97, 98, 99, 100, 101, 102, 103, 104, 105, 106, 107, 108, 109, 110, 111, 112, 113, 114, 115, 116, 117, 118, 119, 123, 124] hS (by kernel_rfl) (by kernel_rfl) (by kernel_rfl) hH (listed' := #[true, true, true, true, true, true, true, true, true, true, true, true, true, true, true, true, true, true, true, true, true, true, true, true, true, true, true, true, true, false, false, false, true, true, false, false, false, false]) (fuel := 7) (sy' := ⟨[(1, Pt 2 0), (4, I i_102), (93, B true), (94, Pt 2 3), (95, V (.slice a1 o_.Rows.length c1)), (96, I i_102), (97, I (IntKind.i64.wrap (i_102 - 1))), (98, V (.pointer (some A111))), (99, V (.pointer (some A113))), (100, I ((gi o_.Rows (IntKind.i64.wrap (i_102 - 1))).State)), (101, Pt 6 0), (102, I ((gi o_.Rows i_102).State)), (103, B (decide (((gi o_.Rows (IntKind.i64.wrap (i_102 - 1))).State) > ((gi o_.Rows i_102).State)))), (104, B false), (105, Pt 2 3), (106, V (.slice a1 o_.Rows.length c1)), (107, I i_102), (108, I (IntKind.i64.wrap (i_102 - 1))), (109, V (.pointer (some A116))), (110, V (.pointer (some A118))), (111, I ((gi o_.Rows (IntKind.i64.wrap (i_102 - 1))).State)), (112, Pt 6 0), (113, I ((gi o_.Rows i_102).State)), (114, B (((gi o_.Rows (IntKind.i64.wrap (i_102 - 1))).State) == ((gi o_.Rows i_102).State))), (115, B true), (116, Pt 2 3), (117, V (.slice a1 o_.Rows.length c1)), (118, I i_102), (119, I (IntKind.i64.wrap (i_102 - 1))), (123, Pt 6 1), (124, I ((gi o_.Rows i_102).Kind))], [(2, (25, [I o_.States, I o_.Kinds, I o_.Init, V (.slice a1 o_.Rows.length c1)])), (6, (66, [I ((gi o_.Rows i_102).State), I ((gi o_.Rows i_102).Kind), I ((gi o_.Rows i_102).Next), I ((gi o_.Rows i_102).Result)]))]⟩) (by as_aux_lemma => kernel_rfl) (by rfl) ?_
                        intro a hS
                        obtain ⟨hq, hm⟩ := hm
                        refine dindex (e := 66) (k := .i64) T 29 hS (by kernel_rfl) (by kernel_rfl) (by kernel_rfl) (by rfl) (by kernel_rfl) hH (by kernel_rfl) (by kernel_rfl) h103 (by kernel_rfl) (by kernel_rfl) hq.1 hq.2 ?_
                        intro A121 a h122 hS
                        clear hq
                        have h122b := h122.here
                        refine dfieldA (off := 1) (fsz := 1) (ft := 3) (TF := tI) (y := (gi o_.Rows (IntKind.i64.wrap (i_102 - 1))).Kind) 30 T hS (by kernel_rfl) (by kernel_rfl) (by kernel_rfl) (by rfl) (by kernel_rfl) hH (by kernel_rfl) h122 (by kernel_rfl) (by kernel_rfl) (by kernel_rfl) (fun cs h => Api_Row_f1 h) ?_
                        intro A123 a h124 hbl hS
                        have h124b := h122b
                        rw [← hbl] at h124b
                        clear hbl
                        refine dload1 T 31 hS (by kernel_rfl) (by kernel_rfl) (by kernel_rfl) (by rfl) (by kernel_rfl) hH (by kernel_rfl) h124 h124b rfl (by kernel_rfl) ?_
                        intro v125 a hv hS
                        cases hv
                        refine take T [34, 35, 36, 37] [2, 6] [1, 4, 94, 95, 96, 97, 98, 99, 100, 101, 102, 103, 104, 105, 106, 107, 108, 109, 110, 111, 112, 113, 114, 115, 116, 117, 118, 119, 120, 121, 122, 123, 124, 125, 126, 127, 128] hS (by kernel_rfl) (by kernel_rfl) (by kernel_rfl) hH (listed' := #[true, true, true, true, true, true, true, true, true, true, true, true, true, true, true, true, true, true, true, true, true, true, true, true, true, true, true, true, true, true, true, true, true, true, true, true, true, true]) (fuel := 0) (sy' := ⟨[(1, Pt 2 0), (4, I i_102), (94, Pt 2 3), (95, V (.slice a1 o_.Rows.length c1)), (96, I i_102), (97, I (IntKind.i64.wrap (i_102 - 1))), (98, V (.pointer (some A111))), (99, V (.pointer (some A113))), (100, I ((gi o_.Rows (IntKind.i64.wrap (i_102 - 1))).State)), (101, Pt 6 0), (102, I ((gi o_.Rows i_102).State)), (103, B (decide (((gi o_.Rows (IntKind.i64.wrap (i_102 - 1))).State) > ((gi o_.Rows i_102).State)))), (104, B false), (105, Pt 2 3), (106, V (.slice a1 o_.Rows.length c1)), (107, I i_102), (108, I (IntKind.i64.wrap (i_102 - 1))), (109, V (.pointer (some A116))), (110, V (.pointer (some A118))), (111, I ((gi o_.Rows (IntKind.i64.wrap (i_102 - 1))).State)), (112, Pt 6 0), (113, I ((gi o_.Rows i_102).State)), (114, B (((gi o_.Rows (IntKind.i64.wrap (i_102 - 1))).State) == ((gi o_.Rows i_102).State))), (115, B true), (116, Pt 2 3), (117, V (.slice a1 o_.Rows.length c1)), (118, I i_102), (119, I (IntKind.i64.wrap (i_102 - 1))), (120, V (.pointer (some A121))), (121, V (.pointer (some A123))), (122, I ((gi o_.Rows (IntKind.i64.wrap (i_102 - 1))).Kind)), (123, Pt 6 1), (124, I ((gi o_.Rows i_102).Kind)), (125, B (decide (((gi o_.Rows (IntKind.i64.wrap (i_102 - 1))).Kind) ≥ ((gi o_.Rows i_102).Kind)))), (126, B (decide (((gi o_.Rows (IntKind.i64.wrap (i_102 - 1))).Kind) ≥ ((gi o_.Rows i_102).Kind)))), (127, B (decide (((gi o_.Rows (IntKind.i64.wrap (i_102 - 1))).Kind) ≥ ((gi o_.Rows i_102).Kind)))), (128, B (decide (((gi o_.Rows (IntKind.i64.wrap (i_102 - 1))).Kind) ≥ ((gi o_.Rows i_102).Kind))))], [(2, (25, [I o_.States, I o_.Kinds, I o_.Init, V (.slice a1 o_.Rows.length c1)])), (6, (66, [I ((gi o_.Rows i_102).State), I ((gi o_.Rows i_102).Kind), I ((gi o_.Rows i_102).Next), I ((gi o_.Rows i_102).Result)]))]⟩) (by as_aux_lemma => kernel_rfl) (by rfl) ?_
                        intro a hS
                        refine drawnDone (by kernel_rfl) ?_
                        clear hD hH
                        replace hS := hS.sel [1, 4, 94, 95, 96, 97, 98, 99, 100, 101, 102, 103, 104, 105, 106, 107, 108, 109, 110, 111, 112, 113, 114, 115, 116, 117, 118, 119, 120, 121, 122, 123, 124, 125, 126, 127, 128] [2, 6] (sy' := ⟨[(1, Pt 2 0), (4, I i_102), (94, Pt 2 3), (95, V (.slice a1 o_.Rows.length c1)), (96, I i_102), (97, I (IntKind.i64.wrap (i_102 - 1))), (98, V (.pointer (some A111))), (99, V (.pointer (some A113))), (100, I ((gi o_.Rows (IntKind.i64.wrap (i_102 - 1))).State)), (101, Pt 6 0), (102, I ((gi o_.Rows i_102).State)), (103, B (decide (((gi o_.Rows (IntKind.i64.wrap (i_102 - 1))).State) > ((gi o_.Rows i_102).State)))), (104, B false), (105, Pt 2 3), (106, V (.slice a1 o_.Rows.length c1)), (107, I i_102), (108, I (IntKind.i64.wrap (i_102 - 1))), (109, V (.pointer (some A116))), (110, V (.pointer (some A118))), (111, I ((gi o_.Rows (IntKind.i64.wrap (i_102 - 1))).State)), (112, Pt 6 0), (113, I ((gi o_.Rows i_102).State)), (114, B (((gi o_.Rows (IntKind.i64.wrap (i_102 - 1))).State) == ((gi o_.Rows i_102).State))), (115, B true), (116, Pt 2 3), (117, V (.slice a1 o_.Rows.length c1)), (118, I i_102), (119, I (IntKind.i64.wrap (i_102 - 1))), (120, V (.pointer (some A121))), (121, V (.pointer (some A123))), (122, I ((gi o_.Rows (IntKind.i64.wrap (i_102 - 1))).Kind)), (123, Pt 6 1), (124, I ((gi o_.Rows i_102).Kind)), (125, B (decide (((gi o_.Rows (IntKind.i64.wrap (i_102 - 1))).Kind) ≥ ((gi o_.Rows i_102).Kind)))), (126, B (decide (((gi o_.Rows (IntKind.i64.wrap (i_102 - 1))).Kind) ≥ ((gi o_.Rows i_102).Kind)))), (127, B (decide (((gi o_.Rows (IntKind.i64.wrap (i_102 - 1))).Kind) ≥ ((gi o_.Rows i_102).Kind)))), (128, B (decide (((gi o_.Rows (IntKind.i64.wrap (i_102 - 1))).Kind) ≥ ((gi o_.Rows i_102).Kind))))], [(2, (25, [I o_.States, I o_.Kinds, I o_.Init, V (.slice a1 o_.Rows.length c1)])), (6, (66, [I ((gi o_.Rows i_102).State), I ((gi o_.Rows i_102).Kind), I ((gi o_.Rows i_102).Next), I ((gi o_.Rows i_102).Result)]))]⟩) (by kernel_rfl)
                        exact ⟨ρ, _, decide (((gi o_.Rows (IntKind.i64.wrap (i_102 - 1))).Kind) ≥ ((gi o_.Rows i_102).Kind)), hm, hS.sel [1, 4, 128] [2] (by kernel_rfl), hO, h103⟩
                      · replace hS := hS.lit (t := 115) (by kernel_rfl) hb
                        replace hm := hm.2 hb
                        refine take T [25, 27, 32, 26, 28, 33, 29, 30, 31, 34, 35, 36, 37] [2, 6] [1, 4, 94, 95, 96, 97, 98, 99, 100, 101, 102, 103, 104, 105, 106, 107, 108, 109, 110, 111, 112, 113, 114, 115, 116, 117, 118, 119, 120, 121, 122, 123, 124, 125, 126, 127, 128] hS (by kernel_rfl) (by kernel_rfl) (by kernel_rfl) hH (listed' := #[true, true, true, true, true, true, true, true, true, true, true, true, true, true, true, true, true, true, true, true, true, true, true, true, true, true, true, true, true, true, true, true, true, true, true, true, true, true]) (fuel := 0) (sy' := ⟨[(1, Pt 2 0), (4, I i_102), (94, Pt 2 3), (95, V (.slice a1 o_.Rows.length c1)), (96, I i_102), (97, I (IntKind.i64.wrap (i_102 - 1))), (98, V (.pointer (some A111))), (99, V (.pointer (some A113))), (100, I ((gi o_.Rows (IntKind.i64.wrap (i_102 - 1))).State)), (101, Pt 6 0), (102, I ((gi o_.Rows i_102).State)), (103, B (decide (((gi o_.Rows (IntKind.i64.wrap (i_102 - 1))).State) > ((gi o_.Rows i_102).State)))), (104, B false), (105, Pt 2 3), (106, V (.slice a1 o_.Rows.length c1)), (107, I i_102), (108, I (IntKind.i64.wrap (i_102 - 1))), (109, V (.pointer (some A116))), (110, V (.pointer (some A118))), (111, I ((gi o_.Rows (IntKind.i64.wrap (i_102 - 1))).State)), (112, Pt 6 0), (113, I ((gi o_.Rows i_102).State)), (114, B (((gi o_.Rows (IntKind.i64.wrap (i_102 - 1))).State) == ((gi o_.Rows i_102).State))), (115, B false), (116, V undef), (117, V undef), (118, V undef), (119, V undef), (120, V undef), (121, V undef), (122, V undef), (123, V undef), (124, V undef), (125, V undef), (126, B false), (127, B false), (128, B false)], [(2, (25, [I o_.States, I o_.Kinds, I o_.Init, V (.slice a1 o_.Rows.length c1)])), (6, (66, [I ((gi o_.Rows i_102).State), I ((gi o_.Rows i_102).Kind), I ((gi o_.Rows i_102).Next), I ((gi o_.Rows i_102).Result)]))]⟩) (by as_aux_lemma => kernel_rfl) (by rfl) ?_
                        intro a hS
                        refine drawnDone (by kernel_rfl) ?_
                        clear hD hH
                        replace hS := hS.sel [1, 4, 94, 95, 96, 97, 98, 99, 100, 101, 102, 103, 104, 105, 106, 107, 108, 109, 110, 111, 112, 113, 114, 115, 126, 127, 128] [2, 6] (sy' := ⟨[(1, Pt 2 0), (4, I i_102), (94, Pt 2 3), (95, V (.slice a1 o_.Rows.length c1)), (96, I i_102), (97, I (IntKind.i64.wrap (i_102 - 1))), (98, V (.pointer (some A111))), (99, V (.pointer (some A113))), (100, I ((gi o_.Rows (IntKind.i64.wrap (i_102 - 1))).State)), (101, Pt 6 0), (102, I ((gi o_.Rows i_102).State)), (103, B (decide (((gi o_.Rows (IntKind.i64.wrap (i_102 - 1))).State) > ((gi o_.Rows i_102).State)))), (104, B false), (105, Pt 2 3), (106, V (.slice a1 o_.Rows.length c1)), (107, I i_102), (108, I (IntKind.i64.wrap (i_102 - 1))), (109, V (.pointer (some A116))), (110, V (.pointer (some A118))), (111, I ((gi o_.Rows (IntKind.i64.wrap (i_102 - 1))).State)), (112, Pt 6 0), (113, I ((gi o_.Rows i_102).State)), (114, B (((gi o_.Rows (IntKind.i64.wrap (i_102 - 1))).State) == ((gi o_.Rows i_102).State))), (115, B false), (126, B false), (127, B false), (128, B false)], [(2, (25, [I o_.States, I o_.Kinds, I o_.Init, V (.slice a1 o_.Rows.length c1)])), (6, (66, [I ((gi o_.Rows i_102).State), I ((gi o_.Rows i_102).Kind), I ((gi o_.Rows i_102).Next), I ((gi o_.Rows i_102).Result)]))]⟩) (by kernel_rfl)
                        exact ⟨ρ, _, false, hm, hS.sel [1, 4, 128] [2] (by kernel_rfl), hO, h103⟩
                  · replace hS := hS.lit (t := 93) (by kernel_rfl) hb
                    replace hm := hm.2 hb
                    refine take T [3, 5, 10, 4, 6, 11, 7, 8, 9, 12, 13, 14, 16, 21, 15, 17, 22, 18, 19, 20, 23, 24, 25, 27, 32, 26, 28, 33, 29, 30, 31, 34, 35, 36, 37] [2, 6] [1, 4, 94, 95, 96, 97, 98, 99, 100, 101, 102, 103, 104, 105, 106, 107, 108, 109, 110, 111, 112, 113, 114, 115, 116, 117, 118, 119, 120, 121, 122, 123, 124, 125, 126, 127, 128] hS (by kernel_rfl) (by kernel_rfl) (by kernel_rfl) hH (listed' := #[true, true, true, true, true, true, true, true, true, true, true, true, true, true, true, true, true, true, true, true, true, true, true, true, true, true, true, true, true, true, true, true, true, true, true, true, true, true]) (fuel := 0) (sy' := ⟨[(1, Pt 2 0), (4, I i_102), (94, V undef), (95, V undef), (96, V undef), (97, V undef), (98, V undef), (99, V undef), (100, V undef), (101, V undef), (102, V undef), (103, V undef), (104, V undef), (105, V undef), (106, V undef), (107, V undef), (108, V undef), (109, V undef), (110, V undef), (111, V undef), (112, V undef), (113, V undef), (114, V undef), (115, V undef), (116, V undef), (117, V undef), (118, V undef), (119, V undef), (120, V undef), (121, V undef), (122, V undef), (123, V undef), (124, V undef), (125, V undef), (126, V undef), (127, V undef), (128, B false)], [(2, (25, [I o_.States, I o_.Kinds, I o_.Init, V (.slice a1 o_.Rows.length c1)])), (6, (66, [I ((gi o_.Rows i_102).State), I ((gi o_.Rows i_102).Kind), I ((gi o_.Rows i_102).Next), I ((gi o_.Rows i_102).Result)]))]⟩) (by as_aux_lemma => kernel_rfl) (by rfl) ?_
                    intro a hS
                    refine drawnDone (by kernel_rfl) ?_
                    clear hD hH
                    replace hS := hS.sel [1, 4, 128] [2] (sy' := ⟨[(1, Pt 2 0), (4, I i_102), (128, B false)], [(2, (25, [I o_.States, I o_.Kinds, I o_.Init, V (.slice a1 o_.Rows.length c1)]))]⟩) (by kernel_rfl)
                    exact ⟨ρ, _, false, hm, hS.sel [1, 4, 128] [2] (by kernel_rfl), hO, h103⟩
                · rintro a w127 ⟨ρ, χ126, x_107, hm, hS, hO, h108⟩
                  unfold VC33_J2 at hm
                  refine wcond hS (b := x_107) (by kernel_rfl) (fun hb => ?_) (fun hb => ?_)
                  · replace hm := hm.1 hb
                    refine regP T hS (sp := []) (ks := [2, 3]) (bs := []) (sy' := ⟨[(2, I i_102), (3, I 32)], []⟩) (by kernel_rfl) ?_
                    intro a hS
                    refine wret ?_
                    exact fin T hS hO (fun c => c) rfl (r := [.int .i64 i_102, .int .i64 32]) (by kernel_rfl) (fun χ' hM hC => ⟨(i_102, 32), hm, rfl⟩)
                  · replace hm := hm.2 hb
                    refine wskip ?_
                    refine region (endP T hS (sp := []) (ks := [1, 4]) (bs := [2]) (sy' := ⟨[(1, Pt 2 0), (4, I (IntKind.i64.wrap (i_102 + 1)))], [(2, (25, [I o_.States, I o_.Kinds, I o_.Init, V (.slice a1 o_.Rows.length c1)]))]⟩) (by kernel_rfl) ?_)
                    intro a hS
                    exact ⟨IntKind.i64.wrap (i_102 + 1), ⟨ρ, _, hm.1, hS.sel [1, 4] [2] (by kernel_rfl), hO, h108⟩, hm.2⟩
        · replace hm := hm.2 hb
          refine wexit (by rfl) ?_
          exact ⟨ρ, _, hm, hS.sel [1] [2] (by kernel_rfl), hO, h103⟩
    · rintro a w133 ⟨ρ, χ132, hm, hS, hO, h101⟩
      unfold VC33_J1 at hm
      refine regP T hS (sp := []) (ks := [2, 3]) (bs := []) (sy' := ⟨[(2, I ((o_.Rows.length : Nat) : Int)), (3, I 0)], []⟩) (by kernel_rfl) ?_
      intro a hS
      refine wret ?_
      exact fin T hS hO (fun c => c) rfl (r := [.int .i64 ((o_.Rows.length : Nat) : Int), .int .i64 0]) (by kernel_rfl) (fun χ' hM hC => ⟨(((o_.Rows.length : Nat) : Int), 0), hm, rfl⟩)
theorem C33 (v : ∀ (o_ : Api_Object), VC33 o_ (fun r => r = ref23_Check o_)) : S33 := by
  intro w χ o_ a1 c1   h1
  refine (W33 w χ o_ a1 c1   _ (v o_) h1).mono ?_
  rintro _ _ _ _ ⟨r, rfl, h⟩
  exact h
def S27 : Prop := ∀ (w : World) (χ : Nat → Nat) (a_ : List Api_Row) (b_ : List Api_Row) (a1 : Option Addr) (c1 : Nat) (a2 : Option Addr) (c2 : Nat), RS tApi_Row w χ a1 a_ c1 → RS tApi_Row w χ a2 b_ c2 → Ret Tryd.prog 27 #[.slice a1 a_.length c1, .slice a2 b_.length c2] xnone w χ (fun w χ' v => v = .bool (ref23_SameRows a_ b_))
theorem hb27 : hasBody Tryd.prog 27 = true := by kernel_rfl
/-- replevin/replevinref23.SameRows -/
theorem W27 (w0 : World) (χ0 : Nat → Nat) (a_ : List Api_Row) (b_ : List Api_Row) (a1 : Option Addr) (c1 : Nat) (a2 : Option Addr) (c2 : Nat) (Q : Bool → Prop) (hm : VC27 a_ b_ Q) (h1 : RS tApi_Row w0 χ0 a1 a_ c1) (h2 : RS tApi_Row w0 χ0 a2 b_ c2) :
    Ret Tryd.prog 27 #[.slice a1 a_.length c1, .slice a2 b_.length c2] xnone w0 χ0 (fun w χ' v => ∃ r, Q r ∧ v = .bool r) := by
  unfold VC27 at hm
  replace hm := hm (h1.sm (by kernel_rfl))
  replace hm := hm (h2.sm (by kernel_rfl))
  refine enter Tryd.func27 rfl (vals := [.slice a1 a_.length c1, .slice a2 b_.length c2]) (by kernel_rfl) ?_
  intro ρ a hS hO hM
  replace h1 := h1.m0 hM
  replace h2 := h2.m0 hM
  clear hM
  refine regP T hS (sp := []) (ks := [0, 1]) (bs := []) (sy' := ⟨[(0, V (.slice a1 a_.length c1)), (1, V (.slice a2 b_.length c2))], []⟩) (by kernel_rfl) ?_
  intro a hS
  refine wseq ?_
  refine regP T hS (sp := []) (ks := [0, 1, 10]) (bs := []) (sy' := ⟨[(0, V (.slice a1 a_.length c1)), (1, V (.slice a2 b_.length c2)), (10, B (((a_.length : Nat) : Int) != ((b_.length : Nat) : Int)))], []⟩) (by kernel_rfl) ?_
  intro a hS
  refine wcond hS (b := (((a_.length : Nat) : Int) != ((b_.length : Nat) : Int))) (by kernel_rfl) (fun hb => ?_) (fun hb => ?_)
  · replace hm := hm.1 hb
    refine regP T hS (sp := []) (ks := [4]) (bs := []) (sy' := ⟨[(4, B false)], []⟩) (by kernel_rfl) ?_
    intro a hS
    refine wret ?_
    exact fin T hS hO (fun c => c) rfl (r := [.bool false]) (by kernel_rfl) (fun χ' hM hC => ⟨false, hm, rfl⟩)
  · replace hm := hm.2 hb
    refine wskip ?_
    refine wcut (fun a w => ∃ (ρ : Nat → Nat) (χ : Nat → Nat), VC27_J1 Q ∧ St Tryd.f27.ntmps ⟨[], []⟩ ρ a w χ ∧ Old w0 χ0 w χ) ?_ ?_
    · refine regP T hS (sp := []) (ks := [0, 1, 5]) (bs := []) (sy' := ⟨[(0, V (.slice a1 a_.length c1)), (1, V (.slice a2 b_.length c2)), (5, I 0)], []⟩) (by kernel_rfl) ?_
      intro a hS
      refine wblock ?_
      obtain ⟨I1, μ1, hm0, hm⟩ := hm
      refine wloop (σ := Int) (fun s a w => ∃ (ρ : Nat → Nat) (χ : Nat → Nat), I1 s ∧ St Tryd.f27.ntmps ⟨[(0, V (.slice a1 a_.length c1)), (1, V (.slice a2 b_.length c2)), (5, I s)], []⟩ ρ a w χ ∧ Old w0 χ0 w χ ∧ RS tApi_Row w χ a1 a_ c1 ∧ RS tApi_Row w χ a2 b_ c2) (fun s => μ1 s) (0) ?_ ?_
      · exact ⟨ρ, _, hm0, hS.sel [0, 1, 5] [] (by kernel_rfl), hO, h1, h2⟩
      · rintro i_103 a w113 ⟨ρ, χ112, hI, hS, hO, h101, h102⟩
        replace hm := hm i_103 hI
        clear hI hm0
        refine wseq ?_
        refine regP T hS (sp := []) (ks := [0, 1, 5, 14]) (bs := []) (sy' := ⟨[(0, V (.slice a1 a_.length c1)), (1, V (.slice a2 b_.length c2)), (5, I i_103), (14, B (decide (i_103 < ((a_.length : Nat) : Int))))], []⟩) (by kernel_rfl) ?_
        intro a hS
        refine wcond hS (b := decide (i_103 < ((a_.length : Nat) : Int))) (by kernel_rfl) (fun hb => ?_) (fun hb => ?_)
        · replace hm := hm.1 hb
          refine wskip ?_
          refine wseq ?_
          refine wblock ?_
          refine drawnSX [] mixed hS ?_
          intro w104 χ105 hS hE hD hH
          replace hO := hO.mv hE rfl rfl
          replace h101 := h101.mv hE rfl
          replace h102 := h102.mv hE rfl
          clear hE
          refine take T [0, 1, 4, 5] [] [0, 1, 5, 17, 18, 21, 22] hS (by kernel_rfl) (by kernel_rfl) (by kernel_rfl) hH (listed' := #[true, true, false, false, true, true, false, false, false]) (fuel := 5) (sy' := ⟨[(0, V (.slice a1 a_.length c1)), (1, V (.slice a2 b_.length c2)), (5, I i_103), (17, V (.slice a1 a_.length c1)), (18, I i_103), (21, V (.slice a2 b_.length c2)), (22, I i_103)], []⟩) (by kernel_rfl) (by rfl) ?_
          intro a hS
          obtain ⟨hq, hm⟩ := hm
          refine dindex (e := 66) (k := .i64) T 2 hS (by kernel_rfl) (by kernel_rfl) (by kernel_rfl) (by rfl) (by kernel_rfl) hH (by kernel_rfl) (by kernel_rfl) h101 (by kernel_rfl) (by kernel_rfl) hq.1 hq.2 ?_
          intro A106 a h107 hS
          clear hq
          have h107b := h107.here
          refine dloadA T 3 hS (by kernel_rfl) (by kernel_rfl) (by kernel_rfl) (by rfl) (by kernel_rfl) hH (by kernel_rfl) h107 h107b (by kernel_rfl) (by kernel_rfl) ?_
          intro v108 a hv hS
          subst hv
          obtain ⟨hq, hm⟩ := hm
          refine dindex (e := 66) (k := .i64) T 6 hS (by kernel_rfl) (by kernel_rfl) (by kernel_rfl) (by rfl) (by kernel_rfl) hH (by kernel_rfl) (by kernel_rfl) h102 (by kernel_rfl) (by kernel_rfl) hq.1 hq.2 ?_
          intro A109 a h110 hS
          clear hq
          have h110b := h110.here
          refine dloadA T 7 hS (by kernel_rfl) (by kernel_rfl) (by kernel_rfl) (by rfl) (by kernel_rfl) hH (by kernel_rfl) h110 h110b (by kernel_rfl) (by kernel_rfl) ?_
          intro v111 a hv hS
          subst hv
          refine dstructEq (op := .neq) (xs := [.int .i64 ((gi a_ i_103).State), .int .i64 ((gi a_ i_103).Kind), .int .i64 ((gi a_ i_103).Next), .int .i64 ((gi a_ i_103).Result)]) (ys := [.int .i64 ((gi b_ i_103).State), .int .i64 ((gi b_ i_103).Kind), .int .i64 ((gi b_ i_103).Next), .int .i64 ((gi b_ i_103).Result)]) (r := (((gi a_ i_103).State) == ((gi b_ i_103).State) && (((gi a_ i_103).Kind) == ((gi b_ i_103).Kind) && (((gi a_ i_103).Next) == ((gi b_ i_103).Next) && (((gi a_ i_103).Result) == ((gi b_ i_103).Result) && true))))) (b := (!(((gi a_ i_103).State) == ((gi b_ i_103).State) && (((gi a_ i_103).Kind) == ((gi b_ i_103).Kind) && (((gi a_ i_103).Next) == ((gi b_ i_103).Next) && (((gi a_ i_103).Result) == ((gi b_ i_103).Result) && true)))))) 8 T hS (by kernel_rfl) (by kernel_rfl) (by kernel_rfl) (by rfl) (by kernel_rfl) hH (by kernel_rfl) (by kernel_rfl) (by kernel_rfl) (by kernel_rfl) (by kernel_rfl) (by kernel_rfl) ?_
          intro a hS
          refine drawnDone (by kernel_rfl) ?_
          clear hD hH
          replace hS := hS.sel [0, 1, 5, 25] [] (sy' := ⟨[(0, V (.slice a1 a_.length c1)), (1, V (.slice a2 b_.length c2)), (5, I i_103), (25, B (!(((gi a_ i_103).State) == ((gi b_ i_103).State) && (((gi a_ i_103).Kind) == ((gi b_ i_103).Kind) && (((gi a_ i_103).Next) == ((gi b_ i_103).Next) && (((gi a_ i_103).Result) == ((gi b_ i_103).Result) && true))))))], []⟩) (by kernel_rfl)
          refine wcond hS (b := (!(((gi a_ i_103).State) == ((gi b_ i_103).State) && (((gi a_ i_103).Kind) == ((gi b_ i_103).Kind) && (((gi a_ i_103).Next) == ((gi b_ i_103).Next) && (((gi a_ i_103).Result) == ((gi b_ i_103).Result) && true)))))) (by kernel_rfl) (fun hb => ?_) (fun hb => ?_)
          · replace hm := hm.1 hb
            refine regP T hS (sp := []) (ks := [4]) (bs := []) (sy' := ⟨[(4, B false)], []⟩) (by kernel_rfl) ?_
            intro a hS
            refine wret ?_
            exact fin T hS hO (fun c => c) rfl (r := [.bool false]) (by kernel_rfl) (fun χ' hM hC => ⟨false, hm, rfl⟩)
          · replace hm := hm.2 hb
            refine wskip ?_
            refine region (endP T hS (sp := []) (ks := [0, 1, 5]) (bs := []) (sy' := ⟨[(0, V (.slice a1 a_.length c1)), (1, V (.slice a2 b_.length c2)), (5, I (IntKind.i64.wrap (i_103 + 1)))], []⟩) (by kernel_rfl) ?_)
            intro a hS
            exact ⟨IntKind.i64.wrap (i_103 + 1), ⟨ρ, _, hm.1, hS.sel [0, 1, 5] [] (by kernel_rfl), hO, h101, h102⟩, hm.2⟩
        · replace hm := hm.2 hb
          refine wexit (by rfl) ?_
          exact ⟨ρ, _, hm, hS.sel [] [] (by kernel_rfl), hO⟩
    · rintro a w115 ⟨ρ, χ114, hm, hS, hO⟩
      unfold VC27_J1 at hm
      refine regP T hS (sp := []) (ks := [4]) (bs := []) (sy' := ⟨[(4, B true)], []⟩) (by kernel_rfl) ?_
      intro a hS
      refine wret ?_
      exact fin T hS hO (fun c => c) rfl (r := [.bool true]) (by kernel_rfl) (fun χ' hM hC => ⟨true, hm, rfl⟩)
theorem C27 (v : ∀ (a_ : List Api_Row) (b_ : List Api_Row), VC27 a_ b_ (fun r => r = ref23_SameRows a_ b_)) : S27 := by
  intro w χ a_ b_ a1 c1 a2 c2   h1 h2
  refine (W27 w χ a_ b_ a1 c1 a2 c2   _ (v a_ b_) h1 h2).mono ?_
  rintro _ _ _ _ ⟨r, rfl, h⟩
  exact h
def S10 : Prop := ∀ (w : World) (χ : Nat → Nat) (a_ : Api_Object) (b_ : Api_Object) (a1 : Option Addr) (c1 : Nat) (a2 : Option Addr) (c2 : Nat), RS tApi_Row w χ a1 a_.Rows c1 → RS tApi_Row w χ a2 b_.Rows c2 → Ret Tryd.prog 10 #[.agg #[.int .i64 a_.States, .int .i64 a_.Kinds, .int .i64 a_.Init, .slice a1 a_.Rows.length c1], .agg #[.int .i64 b_.States, .int .i64 b_.Kinds, .int .i64 b_.Init, .slice a2 b_.Rows.length c2]] xnone w χ (fun w χ' v => v = .bool (ref23_Same a_ b_))
theorem hb10 : hasBody Tryd.prog 10 = true := by kernel_rfl
/-- replevin/replevinref23.Same -/
theorem W10 (k27 : S27) (w0 : World) (χ0 : Nat → Nat) (a_ : Api_Object) (b_ : Api_Object) (a1 : Option Addr) (c1 : Nat) (a2 : Option Addr) (c2 : Nat) (Q : Bool → Prop) (hm : VC10 a_ b_ Q) (h1 : RS tApi_Row w0 χ0 a1 a_.Rows c1) (h2 : RS tApi_Row w0 χ0 a2 b_.Rows c2) :
    Ret Tryd.prog 10 #[.agg #[.int .i64 a_.States, .int .i64 a_.Kinds, .int .i64 a_.Init, .slice a1 a_.Rows.length c1], .agg #[.int .i64 b_.States, .int .i64 b_.Kinds, .int .i64 b_.Init, .slice a2 b_.Rows.length c2]] xnone w0 χ0 (fun w χ' v => ∃ r, Q r ∧ v = .bool r) := by
  unfold VC10 at hm
  replace hm := hm (h1.sm (by kernel_rfl))
  replace hm := hm (h2.sm (by kernel_rfl))
  refine enter Tryd.func10 rfl (vals := [.agg #[.int .i64 a_.States, .int .i64 a_.Kinds, .int .i64 a_.Init, .slice a1 a_.Rows.length c1], .agg #[.int .i64 b_.States, .int .i64 b_.Kinds, .int .i64 b_.Init, .slice a2 b_.Rows.length c2]]) (by kernel_rfl) ?_
  intro ρ a hS hO hM
  replace h1 := h1.m0 hM
  replace h2 := h2.m0 hM
  clear hM
  refine regM T hS (sp := []) (ks := [2, 3]) (bs := [3, 4]) (sy' := ⟨[(2, Pt 3 0), (3, Pt 4 0)], [(3, (25, [I a_.States, I a_.Kinds, I a_.Init, V (.slice a1 a_.Rows.length c1)])), (4, (25, [I b_.States, I b_.Kinds, I b_.Init, V (.slice a2 b_.Rows.length c2)]))]⟩) (by kernel_rfl) ?_
  intro ρ a w105 χ106 hS hE hr
  replace hO := hO.mv hE rfl rfl
  replace h1 := h1.mv hE rfl
  replace h2 := h2.mv hE rfl
  clear hE hr
  refine regO ?_
  refine opsP T hS 20 (sp := [10, 17]) (ks := [2, 3, 24]) (bs := [3, 4]) (sy' := ⟨[(2, Pt 3 0), (3, Pt 4 0), (24, B (((a_.States == b_.States) && (a_.Kinds == b_.Kinds)) && (a_.Init == b_.Init)))], [(3, (25, [I a_.States, I a_.Kinds, I a_.Init, V (.slice a1 a_.Rows.length c1)])), (4, (25, [I b_.States, I b_.Kinds, I b_.Init, V (.slice a2 b_.Rows.length c2)]))]⟩) (by kernel_rfl) ?_
  intro a hS
  rcases Bool.eq_false_or_eq_true (((a_.States == b_.States) && (a_.Kinds == b_.Kinds)) && (a_.Init == b_.Init)) with hb | hb
  · replace hS := hS.lit (t := 24) (by kernel_rfl) hb
    replace hm := hm.1 hb
    refine opsP T hS 4 (sp := []) (ks := [24, 26, 28]) (bs := []) (sy' := ⟨[(24, B true), (26, V (.slice a1 a_.Rows.length c1)), (28, V (.slice a2 b_.Rows.length c2))], []⟩) (by kernel_rfl) ?_
    intro a hS
    refine op1 (call hS (by kernel_rfl) (by kernel_rfl) hb27 (by kernel_rfl) (fun _ _ => rfl) (k27 _ _ a_.Rows b_.Rows a1 c1 a2 c2 h1 h2) ?_)
    intro v101 a w102 χ103 hE hp hS
    replace hO := hO.mv hE rfl rfl
    replace h1 := h1.mv hE rfl
    replace h2 := h2.mv hE rfl
    clear hE
    obtain ⟨r104, hr⟩ : ∃ r, ref23_SameRows a_.Rows b_.Rows = r := ⟨_, rfl⟩
    replace hm := hm r104 hr
    rw [hr] at hp
    clear hr
    subst hp
    refine endP T hS (sp := []) (ks := [4]) (bs := []) (sy' := ⟨[(4, B r104)], []⟩) (by kernel_rfl) ?_
    intro a hS
    refine wret ?_
    exact fin T hS hO (fun c => c) rfl (r := [.bool r104]) (by kernel_rfl) (fun χ' hM hC => ⟨r104, hm, rfl⟩)
  · replace hS := hS.lit (t := 24) (by kernel_rfl) hb
    replace hm := hm.2 hb
    refine endP T hS (sp := []) (ks := [4]) (bs := []) (sy' := ⟨[(4, B false)], []⟩) (by kernel_rfl) ?_
    intro a hS
    refine wret ?_
    exact fin T hS hO (fun c => c) rfl (r := [.bool false]) (by kernel_rfl) (fun χ' hM hC => ⟨false, hm, rfl⟩)
theorem C10 (k27 : S27) (v : ∀ (a_ : Api_Object) (b_ : Api_Object), VC10 a_ b_ (fun r => r = ref23_Same a_ b_)) : S10 := by
  intro w χ a_ b_ a1 c1 a2 c2   h1 h2
  refine (W10 k27 w χ a_ b_ a1 c1 a2 c2   _ (v a_ b_) h1 h2).mono ?_
  rintro _ _ _ _ ⟨r, rfl, h⟩
  exact h
def S23 : Prop := ∀ (w : World) (χ : Nat → Nat) (a_ : List Int) (b_ : List Int) (a1 : Option Addr) (c1 : Nat) (a2 : Option Addr) (c2 : Nat), RS tI w χ a1 a_ c1 → RS tI w χ a2 b_ c2 → Ret Tryd.prog 23 #[.slice a1 a_.length c1, .slice a2 b_.length c2] xnone w χ (fun w χ' v => v = .bool (ref01_SameInts a_ b_))
theorem hb23 : hasBody Tryd.prog 23 = true := by kernel_rfl
/-- replevin/replevinref01.SameInts -/
theorem W23 (w0 : World) (χ0 : Nat → Nat) (a_ : List Int) (b_ : List Int) (a1 : Option Addr) (c1 : Nat) (a2 : Option Addr) (c2 : Nat) (Q : Bool → Prop) (hm : VC23 a_ b_ Q) (h1 : RS tI w0 χ0 a1 a_ c1) (h2 : RS tI w0 χ0 a2 b_ c2) :
    Ret Tryd.prog 23 #[.slice a1 a_.length c1, .slice a2 b_.length c2] xnone w0 χ0 (fun w χ' v => ∃ r, Q r ∧ v = .bool r) := by
  unfold VC23 at hm
  replace hm := hm (h1.sm (by kernel_rfl))
  replace hm := hm (h2.sm (by kernel_rfl))
  refine enter Tryd.func23 rfl (vals := [.slice a1 a_.length c1, .slice a2 b_.length c2]) (by kernel_rfl) ?_
  intro ρ a hS hO hM
  replace h1 := h1.m0 hM
  replace h2 := h2.m0 hM
  clear hM
  refine regP T hS (sp := []) (ks := [0, 1]) (bs := []) (sy' := ⟨[(0, V (.slice a1 a_.length c1)), (1, V (.slice a2 b_.length c2))], []⟩) (by kernel_rfl) ?_
  intro a hS
  refine wseq ?_
  refine regP T hS (sp := []) (ks := [0, 1, 10]) (bs := []) (sy' := ⟨[(0, V (.slice a1 a_.length c1)), (1, V (.slice a2 b_.length c2)), (10, B (((a_.length : Nat) : Int) != ((b_.length : Nat) : Int)))], []⟩) (by kernel_rfl) ?_
  intro a hS
  refine wcond hS (b := (((a_.length : Nat) : Int) != ((b_.length : Nat) : Int))) (by kernel_rfl) (fun hb => ?_) (fun hb => ?_)
  · replace hm := hm.1 hb
    refine regP T hS (sp := []) (ks := [4]) (bs := []) (sy' := ⟨[(4, B false)], []⟩) (by kernel_rfl) ?_
    intro a hS
    refine wret ?_
    exact fin T hS hO (fun c => c) rfl (r := [.bool false]) (by kernel_rfl) (fun χ' hM hC => ⟨false, hm, rfl⟩)
  · replace hm := hm.2 hb
    refine wskip ?_
    refine wcut (fun a w => ∃ (ρ : Nat → Nat) (χ : Nat → Nat), VC23_J1 Q ∧ St Tryd.f23.ntmps ⟨[], []⟩ ρ a w χ ∧ Old w0 χ0 w χ) ?_ ?_
    · refine regP T hS (sp := []) (ks := [0, 1, 5]) (bs := []) (sy' := ⟨[(0, V (.slice a1 a_.length c1)), (1, V (.slice a2 b_.length c2)), (5, I 0)], []⟩) (by kernel_rfl) ?_
      intro a hS
      refine wblock ?_
      obtain ⟨I1, μ1, hm0, hm⟩ := hm
      refine wloop (σ := Int) (fun s a w => ∃ (ρ : Nat → Nat) (χ : Nat → Nat), I1 s ∧ St Tryd.f23.ntmps ⟨[(0, V (.slice a1 a_.length c1)), (1, V (.slice a2 b_.length c2)), (5, I s)], []⟩ ρ a w χ ∧ Old w0 χ0 w χ ∧ RS tI w χ a1 a_ c1 ∧ RS tI w χ a2 b_ c2) (fun s => μ1 s) (0) ?_ ?_
      · exact ⟨ρ, _, hm0, hS.sel [0, 1, 5] [] (by kernel_rfl), hO, h1, h2⟩
      · rintro i_103 a w113 ⟨ρ, χ112, hI, hS, hO, h101, h102⟩
        replace hm := hm i_103 hI
        clear hI hm0
        refine wseq ?_
        refine regP T hS (sp := []) (ks := [0, 1, 5, 14]) (bs := []) (sy' := ⟨[(0, V (.slice a1 a_.length c1)), (1, V (.slice a2 b_.length c2)), (5, I i_103), (14, B (decide (i_103 < ((a_.length : Nat) : Int))))], []⟩) (by kernel_rfl) ?_
        intro a hS
        refine wcond hS (b := decide (i_103 < ((a_.length : Nat) : Int))) (by kernel_rfl) (fun hb => ?_) (fun hb => ?_)
        · replace hm := hm.1 hb
          refine wskip ?_
          refine wseq ?_
          refine wblock ?_
          refine drawnSX [] mixed hS ?_
          intro w104 χ105 hS hE hD hH
          replace hO := hO.mv hE rfl rfl
          replace h101 := h101.mv hE rfl
          replace h102 := h102.mv hE rfl
          clear hE
          refine take T [0, 1, 4, 5] [] [0, 1, 5, 17, 18, 21, 22] hS (by kernel_rfl) (by kernel_rfl) (by kernel_rfl) hH (listed' := #[true, true, false, false, true, true, false, false, false]) (fuel := 5) (sy' := ⟨[(0, V (.slice a1 a_.length c1)), (1, V (.slice a2 b_.length c2)), (5, I i_103), (17, V (.slice a1 a_.length c1)), (18, I i_103), (21, V (.slice a2 b_.length c2)), (22, I i_103)], []⟩) (by kernel_rfl) (by rfl) ?_
          intro a hS
          obtain ⟨hq, hm⟩ := hm
          refine dindex (e := 3) (k := .i64) T 2 hS (by kernel_rfl) (by kernel_rfl) (by kernel_rfl) (by rfl) (by kernel_rfl) hH (by kernel_rfl) (by kernel_rfl) h101 (by kernel_rfl) (by kernel_rfl) hq.1 hq.2 ?_
          intro A106 a h107 hS
          clear hq
          have h107b := h107.here
          refine dload1 T 3 hS (by kernel_rfl) (by kernel_rfl) (by kernel_rfl) (by rfl) (by kernel_rfl) hH (by kernel_rfl) h107 h107b rfl (by kernel_rfl) ?_
          intro v108 a hv hS
          cases hv
          obtain ⟨hq, hm⟩ := hm
          refine dindex (e := 3) (k := .i64) T 6 hS (by kernel_rfl) (by kernel_rfl) (by kernel_rfl) (by rfl) (by kernel_rfl) hH (by kernel_rfl) (by kernel_rfl) h102 (by kernel_rfl) (by kernel_rfl) hq.1 hq.2 ?_
          intro A109 a h110 hS
          clear hq
          have h110b := h110.here
          refine dload1 T 7 hS (by kernel_rfl) (by kernel_rfl) (by kernel_rfl) (by rfl) (by kernel_rfl) hH (by kernel_rfl) h110 h110b rfl (by kernel_rfl) ?_
          intro v111 a hv hS
          cases hv
          refine take T [8] [] [0, 1, 5, 25] hS (by kernel_rfl) (by kernel_rfl) (by kernel_rfl) hH (listed' := #[true, true, true, true, true, true, true, true, true]) (fuel := 0) (sy' := ⟨[(0, V (.slice a1 a_.length c1)), (1, V (.slice a2 b_.length c2)), (5, I i_103), (25, B ((gi a_ i_103) != (gi b_ i_103)))], []⟩) (by kernel_rfl) (by rfl) ?_
          intro a hS
          refine drawnDone (by kernel_rfl) ?_
          clear hD hH
          replace hS := hS.sel [0, 1, 5, 25] [] (sy' := ⟨[(0, V (.slice a1 a_.length c1)), (1, V (.slice a2 b_.length c2)), (5, I i_103), (25, B ((gi a_ i_103) != (gi b_ i_103)))], []⟩) (by kernel_rfl)
          refine wcond hS (b := ((gi a_ i_103) != (gi b_ i_103))) (by kernel_rfl) (fun hb => ?_) (fun hb => ?_)
          · replace hm := hm.1 hb
            refine regP T hS (sp := []) (ks := [4]) (bs := []) (sy' := ⟨[(4, B false)], []⟩) (by kernel_rfl) ?_
            intro a hS
            refine wret ?_
            exact fin T hS hO (fun c => c) rfl (r := [.bool false]) (by kernel_rfl) (fun χ' hM hC => ⟨false, hm, rfl⟩)
          · replace hm := hm.2 hb
            refine wskip ?_
            refine region (endP T hS (sp := []) (ks := [0, 1, 5]) (bs := []) (sy' := ⟨[(0, V (.slice a1 a_.length c1)), (1, V (.slice a2 b_.length c2)), (5, I (IntKind.i64.wrap (i_103 + 1)))], []⟩) (by kernel_rfl) ?_)
            intro a hS
            exact ⟨IntKind.i64.wrap (i_103 + 1), ⟨ρ, _, hm.1, hS.sel [0, 1, 5] [] (by kernel_rfl), hO, h101, h102⟩, hm.2⟩
        · replace hm := hm.2 hb
          refine wexit (by rfl) ?_
          exact ⟨ρ, _, hm, hS.sel [] [] (by kernel_rfl), hO⟩
    · rintro a w115 ⟨ρ, χ114, hm, hS, hO⟩
      unfold VC23_J1 at hm
      refine regP T hS (sp := []) (ks := [4]) (bs := []) (sy' := ⟨[(4, B true)], []⟩) (by kernel_rfl) ?_
      intro a hS
      refine wret ?_
      exact fin T hS hO (fun c => c) rfl (r := [.bool true]) (by kernel_rfl) (fun χ' hM hC => ⟨true, hm, rfl⟩)
theorem C23 (v : ∀ (a_ : List Int) (b_ : List Int), VC23 a_ b_ (fun r => r = ref01_SameInts a_ b_)) : S23 := by
  intro w χ a_ b_ a1 c1 a2 c2   h1 h2
  refine (W23 w χ a_ b_ a1 c1 a2 c2   _ (v a_ b_) h1 h2).mono ?_
  rintro _ _ _ _ ⟨r, rfl, h⟩
  exact h
def S18 : Prop := ∀ (w : World) (χ : Nat → Nat) (o_ : Api_Object) (a1 : Option Addr) (c1 : Nat), RS tApi_Row w χ a1 o_.Rows c1 → Ret Tryd.prog 18 #[.agg #[.int .i64 o_.States, .int .i64 o_.Kinds, .int .i64 o_.Init, .slice a1 o_.Rows.length c1]] xnone w χ (fun w χ' v => v = .bool (law23_Few o_))
theorem hb18 : hasBody Tryd.prog 18 = true := by kernel_rfl
/-- replevin/replevinlaw23.Few -/
theorem W18 (w0 : World) (χ0 : Nat → Nat) (o_ : Api_Object) (a1 : Option Addr) (c1 : Nat) (Q : Bool → Prop) (hm : VC18 o_ Q) (h1 : RS tApi_Row w0 χ0 a1 o_.Rows c1) :
    Ret Tryd.prog 18 #[.agg #[.int .i64 o_.States, .int .i64 o_.Kinds, .int .i64 o_.Init, .slice a1 o_.Rows.length c1]] xnone w0 χ0 (fun w χ' v => ∃ r, Q r ∧ v = .bool r) := by
  unfold VC18 at hm
  replace hm := hm (h1.sm (by kernel_rfl))
  refine enter Tryd.func18 rfl (vals := [.agg #[.int .i64 o_.States, .int .i64 o_.Kinds, .int .i64 o_.Init, .slice a1 o_.Rows.length c1]]) (by kernel_rfl) ?_
  intro ρ a hS hO hM
  replace h1 := h1.m0 hM
  clear hM
  refine regM T hS (sp := []) (ks := [1]) (bs := [2]) (sy' := ⟨[(1, Pt 2 0)], [(2, (25, [I o_.States, I o_.Kinds, I o_.Init, V (.slice a1 o_.Rows.length c1)]))]⟩) (by kernel_rfl) ?_
  intro ρ a w101 χ102 hS hE hr
  replace hO := hO.mv hE rfl rfl
  replace h1 := h1.mv hE rfl
  clear hE hr
  refine regP T hS (sp := []) (ks := [2]) (bs := []) (sy' := ⟨[(2, B (decide (((o_.Rows.length : Nat) : Int) ≤ 300)))], []⟩) (by kernel_rfl) ?_
  intro a hS
  refine wret ?_
  exact fin T hS hO (fun c => c) rfl (r := [.bool (decide (((o_.Rows.length : Nat) : Int) ≤ 300))]) (by kernel_rfl) (fun χ' hM hC => ⟨(decide (((o_.Rows.length : Nat) : Int) ≤ 300)), hm, rfl⟩)
theorem C18 (v : ∀ (o_ : Api_Object), VC18 o_ (fun r => r = law23_Few o_)) : S18 := by
  intro w χ o_ a1 c1   h1
  refine (W18 w χ o_ a1 c1   _ (v o_) h1).mono ?_
  rintro _ _ _ _ ⟨r, rfl, h⟩
  exact h
def S65 : Prop := ∀ (w : World) (χ : Nat → Nat) (x_ : Int) (y_ : Int), preM x_ y_ → Ret Tryd.prog 65 #[.int .u64 x_, .int .u64 y_] xnone w χ (fun w χ' v => v = .tuple #[.int .u64 ((math_bits_Mul64 x_ y_).1), .int .u64 ((math_bits_Mul64 x_ y_).2)])
theorem hb65 : hasBody Tryd.prog 65 = true := by kernel_rfl
/-- math/bits.Mul64 -/
theorem W65 (w0 : World) (χ0 : Nat → Nat) (x_ : Int) (y_ : Int) (Q : Int × Int → Prop) (hm : VC65 x_ y_ Q) :
    Ret Tryd.prog 65 #[.int .u64 x_, .int .u64 y_] xnone w0 χ0 (fun w χ' v => ∃ r, Q r ∧ v = .tuple #[.int .u64 r.1, .int .u64 r.2]) := by
  unfold VC65 at hm
  refine enter Tryd.func65 rfl (vals := [.int .u64 x_, .int .u64 y_]) (by kernel_rfl) ?_
  intro ρ a hS hO hM
  clear hM
  refine regP T hS (sp := []) (ks := [0, 1]) (bs := []) (sy' := ⟨[(0, V (.int .u64 x_)), (1, V (.int .u64 y_))], []⟩) (by kernel_rfl) ?_
  intro a hS
  refine regP T hS (sp := []) (ks := [0, 1, 6]) (bs := []) (sy' := ⟨[(0, V (.int .u64 x_)), (1, V (.int .u64 y_)), (6, V (.int .u64 (IntKind.u64.wrap ((BitVec.ofInt IntKind.u64.bits x_ &&& BitVec.ofInt IntKind.u64.bits 4294967295).toNat : Int))))], []⟩) (by kernel_rfl) ?_
  intro a hS
  refine regP T hS (sp := []) (ks := [0, 1, 6, 7]) (bs := []) (sy' := ⟨[(0, V (.int .u64 x_)), (1, V (.int .u64 y_)), (6, V (.int .u64 (IntKind.u64.wrap ((BitVec.ofInt IntKind.u64.bits x_ &&& BitVec.ofInt IntKind.u64.bits 4294967295).toNat : Int)))), (7, V (.int .u64 ((x_).fdiv (2 ^ 32))))], []⟩) (by kernel_rfl) ?_
  intro a hS
  refine regP T hS (sp := []) (ks := [0, 1, 6, 7, 8]) (bs := []) (sy' := ⟨[(0, V (.int .u64 x_)), (1, V (.int .u64 y_)), (6, V (.int .u64 (IntKind.u64.wrap ((BitVec.ofInt IntKind.u64.bits x_ &&& BitVec.ofInt IntKind.u64.bits 4294967295).toNat : Int)))), (7, V (.int .u64 ((x_).fdiv (2 ^ 32)))), (8, V (.int .u64 (IntKind.u64.wrap ((BitVec.ofInt IntKind.u64.bits y_ &&& BitVec.ofInt IntKind.u64.bits 4294967295).toNat : Int))))], []⟩) (by kernel_rfl) ?_
  intro a hS
  refine regP T hS (sp := []) (ks := [0, 1, 6, 7, 8, 9]) (bs := []) (sy' := ⟨[(0, V (.int .u64 x_)), (1, V (.int .u64 y_)), (6, V (.int .u64 (IntKind.u64.wrap ((BitVec.ofInt IntKind.u64.bits x_ &&& BitVec.ofInt IntKind.u64.bits 4294967295).toNat : Int)))), (7, V (.int .u64 ((x_).fdiv (2 ^ 32)))), (8, V (.int .u64 (IntKind.u64.wrap ((BitVec.ofInt IntKind.u64.bits y_ &&& BitVec.ofInt IntKind.u64.bits 4294967295).toNat : Int)))), (9, V (.int .u64 ((y_).fdiv (2 ^ 32))))], []⟩) (by kernel_rfl) ?_
  intro a hS
  refine regP T hS (sp := []) (ks := [0, 1, 6, 7, 8, 9, 10]) (bs := []) (sy' := ⟨[(0, V (.int .u64 x_)), (1, V (.int .u64 y_)), (6, V (.int .u64 (IntKind.u64.wrap ((BitVec.ofInt IntKind.u64.bits x_ &&& BitVec.ofInt IntKind.u64.bits 4294967295).toNat : Int)))), (7, V (.int .u64 ((x_).fdiv (2 ^ 32)))), (8, V (.int .u64 (IntKind.u64.wrap ((BitVec.ofInt IntKind.u64.bits y_ &&& BitVec.ofInt IntKind.u64.bits 4294967295).toNat : Int)))), (9, V (.int .u64 ((y_).fdiv (2 ^ 32)))), (10, V (.int .u64 (IntKind.u64.wrap ((IntKind.u64.wrap ((BitVec.ofInt IntKind.u64.bits x_ &&& BitVec.ofInt IntKind.u64.bits 4294967295).toNat : Int)) * (IntKind.u64.wrap ((BitVec.ofInt IntKind.u64.bits y_ &&& BitVec.ofInt IntKind.u64.bits 4294967295).toNat : Int))))))], []⟩) (by kernel_rfl) ?_
  intro a hS
  refine regP T hS (sp := []) (ks := [0, 1, 6, 7, 9, 11]) (bs := []) (sy' := ⟨[(0, V (.int .u64 x_)), (1, V (.int .u64 y_)), (6, V (.int .u64 (IntKind.u64.wrap ((BitVec.ofInt IntKind.u64.bits x_ &&& BitVec.ofInt IntKind.u64.bits 4294967295).toNat : Int)))), (7, V (.int .u64 ((x_).fdiv (2 ^ 32)))), (9, V (.int .u64 ((y_).fdiv (2 ^ 32)))), (11, V (.int .u64 (IntKind.u64.wrap ((IntKind.u64.wrap (((x_).fdiv (2 ^ 32)) * (IntKind.u64.wrap ((BitVec.ofInt IntKind.u64.bits y_ &&& BitVec.ofInt IntKind.u64.bits 4294967295).toNat : Int)))) + (((IntKind.u64.wrap ((IntKind.u64.wrap ((BitVec.ofInt IntKind.u64.bits x_ &&& BitVec.ofInt IntKind.u64.bits 4294967295).toNat : Int)) * (IntKind.u64.wrap ((BitVec.ofInt IntKind.u64.bits y_ &&& BitVec.ofInt IntKind.u64.bits 4294967295).toNat : Int))))).fdiv (2 ^ 32))))))], []⟩) (by kernel_rfl) ?_
  intro a hS
  refine regP T hS (sp := []) (ks := [0, 1, 6, 7, 9, 11, 12]) (bs := []) (sy' := ⟨[(0, V (.int .u64 x_)), (1, V (.int .u64 y_)), (6, V (.int .u64 (IntKind.u64.wrap ((BitVec.ofInt IntKind.u64.bits x_ &&& BitVec.ofInt IntKind.u64.bits 4294967295).toNat : Int)))), (7, V (.int .u64 ((x_).fdiv (2 ^ 32)))), (9, V (.int .u64 ((y_).fdiv (2 ^ 32)))), (11, V (.int .u64 (IntKind.u64.wrap ((IntKind.u64.wrap (((x_).fdiv (2 ^ 32)) * (IntKind.u64.wrap ((BitVec.ofInt IntKind.u64.bits y_ &&& BitVec.ofInt IntKind.u64.bits 4294967295).toNat : Int)))) + (((IntKind.u64.wrap ((IntKind.u64.wrap ((BitVec.ofInt IntKind.u64.bits x_ &&& BitVec.ofInt IntKind.u64.bits 4294967295).toNat : Int)) * (IntKind.u64.wrap ((BitVec.ofInt IntKind.u64.bits y_ &&& BitVec.ofInt IntKind.u64.bits 4294967295).toNat : Int))))).fdiv (2 ^ 32)))))), (12, V (.int .u64 (IntKind.u64.wrap ((BitVec.ofInt IntKind.u64.bits (IntKind.u64.wrap ((IntKind.u64.wrap (((x_).fdiv (2 ^ 32)) * (IntKind.u64.wrap ((BitVec.ofInt IntKind.u64.bits y_ &&& BitVec.ofInt IntKind.u64.bits 4294967295).toNat : Int)))) + (((IntKind.u64.wrap ((IntKind.u64.wrap ((BitVec.ofInt IntKind.u64.bits x_ &&& BitVec.ofInt IntKind.u64.bits 4294967295).toNat : Int)) * (IntKind.u64.wrap ((BitVec.ofInt IntKind.u64.bits y_ &&& BitVec.ofInt IntKind.u64.bits 4294967295).toNat : Int))))).fdiv (2 ^ 32)))) &&& BitVec.ofInt IntKind.u64.bits 4294967295).toNat : Int))))], []⟩) (by kernel_rfl) ?_
  intro a hS
  refine regP T hS (sp := []) (ks := [0, 1, 6, 7, 9, 12, 13]) (bs := []) (sy' := ⟨[(0, V (.int .u64 x_)), (1, V (.int .u64 y_)), (6, V (.int .u64 (IntKind.u64.wrap ((BitVec.ofInt IntKind.u64.bits x_ &&& BitVec.ofInt IntKind.u64.bits 4294967295).toNat : Int)))), (7, V (.int .u64 ((x_).fdiv (2 ^ 32)))), (9, V (.int .u64 ((y_).fdiv (2 ^ 32)))), (12, V (.int .u64 (IntKind.u64.wrap ((BitVec.ofInt IntKind.u64.bits (IntKind.u64.wrap ((IntKind.u64.wrap (((x_).fdiv (2 ^ 32)) * (IntKind.u64.wrap ((BitVec.ofInt IntKind.u64.bits y_ &&& BitVec.ofInt IntKind.u64.bits 4294967295).toNat : Int)))) + (((IntKind.u64.wrap ((IntKind.u64.wrap ((BitVec.ofInt IntKind.u64.bits x_ &&& BitVec.ofInt IntKind.u64.bits 4294967295).toNat : Int)) * (IntKind.u64.wrap ((BitVec.ofInt IntKind.u64.bits y_ &&& BitVec.ofInt IntKind.u64.bits 4294967295).toNat : Int))))).fdiv (2 ^ 32)))) &&& BitVec.ofInt IntKind.u64.bits 4294967295).toNat : Int)))), (13, V (.int .u64 (((IntKind.u64.wrap ((IntKind.u64.wrap (((x_).fdiv (2 ^ 32)) * (IntKind.u64.wrap ((BitVec.ofInt IntKind.u64.bits y_ &&& BitVec.ofInt IntKind.u64.bits 4294967295).toNat : Int)))) + (((IntKind.u64.wrap ((IntKind.u64.wrap ((BitVec.ofInt IntKind.u64.bits x_ &&& BitVec.ofInt IntKind.u64.bits 4294967295).toNat : Int)) * (IntKind.u64.wrap ((BitVec.ofInt IntKind.u64.bits y_ &&& BitVec.ofInt IntKind.u64.bits 4294967295).toNat : Int))))).fdiv (2 ^ 32))))).fdiv (2 ^ 32))))], []⟩) (by kernel_rfl) ?_
  intro a hS
  refine regP T hS (sp := []) (ks := [0, 1, 7, 9, 12, 13]) (bs := []) (sy' := ⟨[(0, V (.int .u64 x_)), (1, V (.int .u64 y_)), (7, V (.int .u64 ((x_).fdiv (2 ^ 32)))), (9, V (.int .u64 ((y_).fdiv (2 ^ 32)))), (12, V (.int .u64 (IntKind.u64.wrap ((IntKind.u64.wrap ((BitVec.ofInt IntKind.u64.bits (IntKind.u64.wrap ((IntKind.u64.wrap (((x_).fdiv (2 ^ 32)) * (IntKind.u64.wrap ((BitVec.ofInt IntKind.u64.bits y_ &&& BitVec.ofInt IntKind.u64.bits 4294967295).toNat : Int)))) + (((IntKind.u64.wrap ((IntKind.u64.wrap ((BitVec.ofInt IntKind.u64.bits x_ &&& BitVec.ofInt IntKind.u64.bits 4294967295).toNat : Int)) * (IntKind.u64.wrap ((BitVec.ofInt IntKind.u64.bits y_ &&& BitVec.ofInt IntKind.u64.bits 4294967295).toNat : Int))))).fdiv (2 ^ 32)))) &&& BitVec.ofInt IntKind.u64.bits 4294967295).toNat : Int)) + (IntKind.u64.wrap ((IntKind.u64.wrap ((BitVec.ofInt IntKind.u64.bits x_ &&& BitVec.ofInt IntKind.u64.bits 4294967295).toNat : Int)) * ((y_).fdiv (2 ^ 32)))))))), (13, V (.int .u64 (((IntKind.u64.wrap ((IntKind.u64.wrap (((x_).fdiv (2 ^ 32)) * (IntKind.u64.wrap ((BitVec.ofInt IntKind.u64.bits y_ &&& BitVec.ofInt IntKind.u64.bits 4294967295).toNat : Int)))) + (((IntKind.u64.wrap ((IntKind.u64.wrap ((BitVec.ofInt IntKind.u64.bits x_ &&& BitVec.ofInt IntKind.u64.bits 4294967295).toNat : Int)) * (IntKind.u64.wrap ((BitVec.ofInt IntKind.u64.bits y_ &&& BitVec.ofInt IntKind.u64.bits 4294967295).toNat : Int))))).fdiv (2 ^ 32))))).fdiv (2 ^ 32))))], []⟩) (by kernel_rfl) ?_
  intro a hS
  refine regP T hS (sp := []) (ks := [0, 1, 4]) (bs := []) (sy' := ⟨[(0, V (.int .u64 x_)), (1, V (.int .u64 y_)), (4, V (.int .u64 (IntKind.u64.wrap ((IntKind.u64.wrap ((IntKind.u64.wrap (((x_).fdiv (2 ^ 32)) * ((y_).fdiv (2 ^ 32)))) + (((IntKind.u64.wrap ((IntKind.u64.wrap (((x_).fdiv (2 ^ 32)) * (IntKind.u64.wrap ((BitVec.ofInt IntKind.u64.bits y_ &&& BitVec.ofInt IntKind.u64.bits 4294967295).toNat : Int)))) + (((IntKind.u64.wrap ((IntKind.u64.wrap ((BitVec.ofInt IntKind.u64.bits x_ &&& BitVec.ofInt IntKind.u64.bits 4294967295).toNat : Int)) * (IntKind.u64.wrap ((BitVec.ofInt IntKind.u64.bits y_ &&& BitVec.ofInt IntKind.u64.bits 4294967295).toNat : Int))))).fdiv (2 ^ 32))))).fdiv (2 ^ 32)))) + (((IntKind.u64.wrap ((IntKind.u64.wrap ((BitVec.ofInt IntKind.u64.bits (IntKind.u64.wrap ((IntKind.u64.wrap (((x_).fdiv (2 ^ 32)) * (IntKind.u64.wrap ((BitVec.ofInt IntKind.u64.bits y_ &&& BitVec.ofInt IntKind.u64.bits 4294967295).toNat : Int)))) + (((IntKind.u64.wrap ((IntKind.u64.wrap ((BitVec.ofInt IntKind.u64.bits x_ &&& BitVec.ofInt IntKind.u64.bits 4294967295).toNat : Int)) * (IntKind.u64.wrap ((BitVec.ofInt IntKind.u64.bits y_ &&& BitVec.ofInt IntKind.u64.bits 4294967295).toNat : Int))))).fdiv (2 ^ 32)))) &&& BitVec.ofInt IntKind.u64.bits 4294967295).toNat : Int)) + (IntKind.u64.wrap ((IntKind.u64.wrap ((BitVec.ofInt IntKind.u64.bits x_ &&& BitVec.ofInt IntKind.u64.bits 4294967295).toNat : Int)) * ((y_).fdiv (2 ^ 32))))))).fdiv (2 ^ 32))))))], []⟩) (by kernel_rfl) ?_
  intro a hS
  refine regP T hS (sp := []) (ks := [4, 5]) (bs := []) (sy' := ⟨[(4, V (.int .u64 (IntKind.u64.wrap ((IntKind.u64.wrap ((IntKind.u64.wrap (((x_).fdiv (2 ^ 32)) * ((y_).fdiv (2 ^ 32)))) + (((IntKind.u64.wrap ((IntKind.u64.wrap (((x_).fdiv (2 ^ 32)) * (IntKind.u64.wrap ((BitVec.ofInt IntKind.u64.bits y_ &&& BitVec.ofInt IntKind.u64.bits 4294967295).toNat : Int)))) + (((IntKind.u64.wrap ((IntKind.u64.wrap ((BitVec.ofInt IntKind.u64.bits x_ &&& BitVec.ofInt IntKind.u64.bits 4294967295).toNat : Int)) * (IntKind.u64.wrap ((BitVec.ofInt IntKind.u64.bits y_ &&& BitVec.ofInt IntKind.u64.bits 4294967295).toNat : Int))))).fdiv (2 ^ 32))))).fdiv (2 ^ 32)))) + (((IntKind.u64.wrap ((IntKind.u64.wrap ((BitVec.ofInt IntKind.u64.bits (IntKind.u64.wrap ((IntKind.u64.wrap (((x_).fdiv (2 ^ 32)) * (IntKind.u64.wrap ((BitVec.ofInt IntKind.u64.bits y_ &&& BitVec.ofInt IntKind.u64.bits 4294967295).toNat : Int)))) + (((IntKind.u64.wrap ((IntKind.u64.wrap ((BitVec.ofInt IntKind.u64.bits x_ &&& BitVec.ofInt IntKind.u64.bits 4294967295).toNat : Int)) * (IntKind.u64.wrap ((BitVec.ofInt IntKind.u64.bits y_ &&& BitVec.ofInt IntKind.u64.bits 4294967295).toNat : Int))))).fdiv (2 ^ 32)))) &&& BitVec.ofInt IntKind.u64.bits 4294967295).toNat : Int)) + (IntKind.u64.wrap ((IntKind.u64.wrap ((BitVec.ofInt IntKind.u64.bits x_ &&& BitVec.ofInt IntKind.u64.bits 4294967295).toNat : Int)) * ((y_).fdiv (2 ^ 32))))))).fdiv (2 ^ 32)))))), (5, V (.int .u64 (IntKind.u64.wrap (x_ * y_))))], []⟩) (by kernel_rfl) ?_
  intro a hS
  refine wret ?_
  exact fin T hS hO (fun c => c) rfl (r := [.int .u64 (IntKind.u64.wrap ((IntKind.u64.wrap ((IntKind.u64.wrap (((x_).fdiv (2 ^ 32)) * ((y_).fdiv (2 ^ 32)))) + (((IntKind.u64.wrap ((IntKind.u64.wrap (((x_).fdiv (2 ^ 32)) * (IntKind.u64.wrap ((BitVec.ofInt IntKind.u64.bits y_ &&& BitVec.ofInt IntKind.u64.bits 4294967295).toNat : Int)))) + (((IntKind.u64.wrap ((IntKind.u64.wrap ((BitVec.ofInt IntKind.u64.bits x_ &&& BitVec.ofInt IntKind.u64.bits 4294967295).toNat : Int)) * (IntKind.u64.wrap ((BitVec.ofInt IntKind.u64.bits y_ &&& BitVec.ofInt IntKind.u64.bits 4294967295).toNat : Int))))).fdiv (2 ^ 32))))).fdiv (2 ^ 32)))) + (((IntKind.u64.wrap ((IntKind.u64.wrap ((BitVec.ofInt IntKind.u64.bits (IntKind.u64.wrap ((IntKind.u64.wrap (((x_).fdiv (2 ^ 32)) * (IntKind.u64.wrap ((BitVec.ofInt IntKind.u64.bits y_ &&& BitVec.ofInt IntKind.u64.bits 4294967295).toNat : Int)))) + (((IntKind.u64.wrap ((IntKind.u64.wrap ((BitVec.ofInt IntKind.u64.bits x_ &&& BitVec.ofInt IntKind.u64.bits 4294967295).toNat : Int)) * (IntKind.u64.wrap ((BitVec.ofInt IntKind.u64.bits y_ &&& BitVec.ofInt IntKind.u64.bits 4294967295).toNat : Int))))).fdiv (2 ^ 32)))) &&& BitVec.ofInt IntKind.u64.bits 4294967295).toNat : Int)) + (IntKind.u64.wrap ((IntKind.u64.wrap ((BitVec.ofInt IntKind.u64.bits x_ &&& BitVec.ofInt IntKind.u64.bits 4294967295).toNat : Int)) * ((y_).fdiv (2 ^ 32))))))).fdiv (2 ^ 32)))), .int .u64 (IntKind.u64.wrap (x_ * y_))]) (by kernel_rfl) (fun χ' hM hC => ⟨(IntKind.u64.wrap ((IntKind.u64.wrap ((IntKind.u64.wrap (((x_).fdiv (2 ^ 32)) * ((y_).fdiv (2 ^ 32)))) + (((IntKind.u64.wrap ((IntKind.u64.wrap (((x_).fdiv (2 ^ 32)) * (IntKind.u64.wrap ((BitVec.ofInt IntKind.u64.bits y_ &&& BitVec.ofInt IntKind.u64.bits 4294967295).toNat : Int)))) + (((IntKind.u64.wrap ((IntKind.u64.wrap ((BitVec.ofInt IntKind.u64.bits x_ &&& BitVec.ofInt IntKind.u64.bits 4294967295).toNat : Int)) * (IntKind.u64.wrap ((BitVec.ofInt IntKind.u64.bits y_ &&& BitVec.ofInt IntKind.u64.bits 4294967295).toNat : Int))))).fdiv (2 ^ 32))))).fdiv (2 ^ 32)))) + (((IntKind.u64.wrap ((IntKind.u64.wrap ((BitVec.ofInt IntKind.u64.bits (IntKind.u64.wrap ((IntKind.u64.wrap (((x_).fdiv (2 ^ 32)) * (IntKind.u64.wrap ((BitVec.ofInt IntKind.u64.bits y_ &&& BitVec.ofInt IntKind.u64.bits 4294967295).toNat : Int)))) + (((IntKind.u64.wrap ((IntKind.u64.wrap ((BitVec.ofInt IntKind.u64.bits x_ &&& BitVec.ofInt IntKind.u64.bits 4294967295).toNat : Int)) * (IntKind.u64.wrap ((BitVec.ofInt IntKind.u64.bits y_ &&& BitVec.ofInt IntKind.u64.bits 4294967295).toNat : Int))))).fdiv (2 ^ 32)))) &&& BitVec.ofInt IntKind.u64.bits 4294967295).toNat : Int)) + (IntKind.u64.wrap ((IntKind.u64.wrap ((BitVec.ofInt IntKind.u64.bits x_ &&& BitVec.ofInt IntKind.u64.bits 4294967295).toNat : Int)) * ((y_).fdiv (2 ^ 32))))))).fdiv (2 ^ 32))), IntKind.u64.wrap (x_ * y_)), hm, rfl⟩)
theorem C65 (v : ∀ (x_ : Int) (y_ : Int), preM x_ y_ → VC65 x_ y_ (fun r => r = math_bits_Mul64 x_ y_)) : S65 := by
  intro w χ x_ y_    hp 
  refine (W65 w χ x_ y_    _ (v x_ y_ hp)).mono ?_
  rintro _ _ _ _ ⟨r, rfl, h⟩
  exact h
def S55 : Prop := ∀ (w : World) (χ : Nat → Nat) (x_ : Int) (y_ : Int), preM x_ y_ → Ret Tryd.prog 55 #[.int .u64 x_, .int .u64 y_] xnone w χ (fun w χ' v => v = .tuple #[.int .u64 ((math_bits_Mul x_ y_).1), .int .u64 ((math_bits_Mul x_ y_).2)])
theorem hb55 : hasBody Tryd.prog 55 = true := by kernel_rfl
/-- math/bits.Mul -/
theorem W55 (k65 : S65) (w0 : World) (χ0 : Nat → Nat) (x_ : Int) (y_ : Int) (Q : Int × Int → Prop) (hm : VC55 x_ y_ Q) :
    Ret Tryd.prog 55 #[.int .u64 x_, .int .u64 y_] xnone w0 χ0 (fun w χ' v => ∃ r, Q r ∧ v = .tuple #[.int .u64 r.1, .int .u64 r.2]) := by
  unfold VC55 at hm
  refine enter Tryd.func55 rfl (vals := [.int .u64 x_, .int .u64 y_]) (by kernel_rfl) ?_
  intro ρ a hS hO hM
  clear hM
  refine regP T hS (sp := []) (ks := [0, 1]) (bs := []) (sy' := ⟨[(0, V (.int .u64 x_)), (1, V (.int .u64 y_))], []⟩) (by kernel_rfl) ?_
  intro a hS
  refine wseq ?_
  refine wcond hS (b := false) (by kernel_rfl) (fun hb => by cases hb) (fun _ => ?_)
  refine wskip ?_
  refine regO ?_
  refine opsP T hS 2 (sp := []) (ks := [23, 24]) (bs := []) (sy' := ⟨[(23, V (.int .u64 x_)), (24, V (.int .u64 y_))], []⟩) (by kernel_rfl) ?_
  intro a hS
  obtain ⟨hq, hm⟩ := hm
  refine op1 (call hS (by kernel_rfl) (by kernel_rfl) hb65 (by kernel_rfl) (fun _ _ => rfl) (k65 _ _ x_ y_ hq) ?_)
  intro v101 a w102 χ103 hE hp hS
  clear hq
  replace hO := hO.mv hE rfl rfl
  clear hE
  obtain ⟨r104, hr⟩ : ∃ r, math_bits_Mul64 x_ y_ = r := ⟨_, rfl⟩
  replace hm := hm r104 hr
  rw [hr] at hp
  clear hr
  subst hp
  refine endP T hS (sp := []) (ks := [8, 9]) (bs := []) (sy' := ⟨[(8, V (.int .u64 r104.1)), (9, V (.int .u64 r104.2))], []⟩) (by kernel_rfl) ?_
  intro a hS
  refine regP T hS (sp := []) (ks := [4, 5]) (bs := []) (sy' := ⟨[(4, V (.int .u64 r104.1)), (5, V (.int .u64 r104.2))], []⟩) (by kernel_rfl) ?_
  intro a hS
  refine wret ?_
  exact fin T hS hO (fun c => c) rfl (r := [.int .u64 r104.1, .int .u64 r104.2]) (by kernel_rfl) (fun χ' hM hC => ⟨(r104.1, r104.2), hm, rfl⟩)
theorem C55 (k65 : S65) (v : ∀ (x_ : Int) (y_ : Int), preM x_ y_ → VC55 x_ y_ (fun r => r = math_bits_Mul x_ y_)) : S55 := by
  intro w χ x_ y_    hp 
  refine (W55 k65 w χ x_ y_    _ (v x_ y_ hp)).mono ?_
  rintro _ _ _ _ ⟨r, rfl, h⟩
  exact h
def S44 : Prop := ∀ (w : World) (χ : Nat → Nat) (x_ : List Int) (count : Int) (a1 : Option Addr) (c1 : Nat), preRep x_ count → RS tI w χ a1 x_ c1 → Ret Tryd.prog 44 #[.slice a1 x_.length c1, .int .i64 count] xnone w χ (fun w χ' v => ∃ (ra1 : Option Addr) (rc1 : Nat), v = .slice ra1 (slices_Repeat_int_int x_ count).length rc1 ∧ RS tI w χ' ra1 (slices_Repeat_int_int x_ count) rc1)
theorem hb44 : hasBody Tryd.prog 44 = true := by kernel_rfl
/-- slices.Repeat[[]int,int] -/
theorem W44 (k55 : S55) (w0 : World) (χ0 : Nat → Nat) (x_ : List Int) (count : Int) (a1 : Option Addr) (c1 : Nat) (Q : (List Int) → Prop) (hm : VC44 x_ count Q) (h1 : RS tI w0 χ0 a1 x_ c1) :
    Ret Tryd.prog 44 #[.slice a1 x_.length c1, .int .i64 count] xnone w0 χ0 (fun w χ' v => ∃ r, Q r ∧ ∃ (ra1 : Option Addr) (rc1 : Nat), v = .slice ra1 r.length rc1 ∧ RS tI w χ' ra1 r rc1) := by
  unfold VC44 at hm
  replace hm := hm (h1.sm (by kernel_rfl))
  refine enter Tryd.func44 rfl (vals := [.slice a1 x_.length c1, .int .i64 count]) (by kernel_rfl) ?_
  intro ρ a hS hO hM
  replace h1 := h1.m0 hM
  clear hM
  refine regP T hS (sp := []) (ks := [0, 1]) (bs := []) (sy' := ⟨[(0, V (.slice a1 x_.length c1)), (1, I count)], []⟩) (by kernel_rfl) ?_
  intro a hS
  refine wseq ?_
  refine regP T hS (sp := []) (ks := [0, 1, 10]) (bs := []) (sy' := ⟨[(0, V (.slice a1 x_.length c1)), (1, I count), (10, B (decide (count < 0)))], []⟩) (by kernel_rfl) ?_
  intro a hS
  refine wcond hS (b := decide (count < 0)) (by kernel_rfl) (fun hb => ?_) (fun hb => ?_)
  · replace hm := hm.1 hb
    exact hm.elim
  · replace hm := hm.2 hb
    refine wskip ?_
    refine regO ?_
    refine opsP T hS 5 (sp := []) (ks := [0, 15, 17]) (bs := []) (sy' := ⟨[(0, V (.slice a1 x_.length c1)), (15, V (.int .u64 (IntKind.u64.wrap ((x_.length : Nat) : Int)))), (17, V (.int .u64 (IntKind.u64.wrap count)))], []⟩) (by kernel_rfl) ?_
    intro a hS
    obtain ⟨hq, hm⟩ := hm
    refine op1 (call hS (by kernel_rfl) (by kernel_rfl) hb55 (by kernel_rfl) (fun _ _ => rfl) (k55 _ _ (IntKind.u64.wrap ((x_.length : Nat) : Int)) (IntKind.u64.wrap count) hq) ?_)
    intro v101 a w102 χ103 hE hp hS
    clear hq
    replace hO := hO.mv hE rfl rfl
    replace h1 := h1.mv hE rfl
    clear hE
    obtain ⟨r104, hr⟩ : ∃ r, math_bits_Mul (IntKind.u64.wrap ((x_.length : Nat) : Int)) (IntKind.u64.wrap count) = r := ⟨_, rfl⟩
    replace hm := hm r104 hr
    rw [hr] at hp
    clear hr
    subst hp
    refine endP T hS (sp := []) (ks := [0, 5, 6]) (bs := []) (sy' := ⟨[(0, V (.slice a1 x_.length c1)), (5, V (.int .u64 r104.1)), (6, V (.int .u64 r104.2))], []⟩) (by kernel_rfl) ?_
    intro a hS
    refine wseq ?_
    refine regP T hS (sp := [23]) (ks := [0, 6, 26]) (bs := []) (sy' := ⟨[(0, V (.slice a1 x_.length c1)), (6, V (.int .u64 r104.2)), (26, B ((decide (r104.1 > 0)) || (decide (r104.2 > 9223372036854775807))))], []⟩) (by kernel_rfl) ?_
    intro a hS
    refine wcond hS (b := ((decide (r104.1 > 0)) || (decide (r104.2 > 9223372036854775807)))) (by kernel_rfl) (fun hb => ?_) (fun hb => ?_)
    · replace hm := hm.1 hb
      exact hm.elim
    · replace hm := hm.2 hb
      refine wskip ?_
      refine regO ?_
      refine opsP T hS 2 (sp := []) (ks := [0, 29]) (bs := []) (sy' := ⟨[(0, V (.slice a1 x_.length c1)), (29, I (IntKind.i64.wrap r104.2))], []⟩) (by kernel_rfl) ?_
      intro a hS
      obtain ⟨hq, hm⟩ := hm
      refine op1 (make (E := 3) (kl := .i64) (kc := .i64) (col := 1005) (T := tI) T 0 hS (by kernel_rfl) (by kernel_rfl) (by kernel_rfl) (by kernel_rfl) (by kernel_rfl) (by kernel_rfl) hq.1 hq.2.1 (by have := hq.2.2; have e_ : ((tI.bytes : Nat) : Int) = 8 := rfl; rw [e_]; omega) (by have := hq.2.2; omega) (fun _ _ => rfl) ?_)
      intro b105 a w106 χ107 hE h108 hN hS
      clear hq hN
      replace hO := hO.mv hE rfl rfl
      replace h1 := h1.mv hE rfl
      clear hE
      replace hS := hS.conv (t := 30) (y := .slice (some ⟨b105, 0, none⟩) (List.replicate (IntKind.i64.wrap r104.2).toNat (0 : Int)).length (IntKind.i64.wrap r104.2).toNat) (by kernel_rfl) (by rw [List.length_replicate])
      refine endP T hS (sp := []) (ks := [0, 7]) (bs := []) (sy' := ⟨[(0, V (.slice a1 x_.length c1)), (7, V (.slice (some ⟨b105, 0, none⟩) (List.replicate (IntKind.i64.wrap r104.2).toNat (0 : Int)).length (IntKind.i64.wrap r104.2).toNat))], []⟩) (by kernel_rfl) ?_
      intro a hS
      refine regO ?_
      refine opsP T hS 2 (sp := []) (ks := [7, 31, 32]) (bs := []) (sy' := ⟨[(7, V (.slice (some ⟨b105, 0, none⟩) (List.replicate (IntKind.i64.wrap r104.2).toNat (0 : Int)).length (IntKind.i64.wrap r104.2).toNat)), (31, V (.slice (some ⟨b105, 0, none⟩) (List.replicate (IntKind.i64.wrap r104.2).toNat (0 : Int)).length (IntKind.i64.wrap r104.2).toNat)), (32, V (.slice a1 x_.length c1))], []⟩) (by kernel_rfl) ?_
      intro a hS
      obtain ⟨news, hN⟩ := h1.src
      refine op1 (copyO (E := 3) (T := tI) (xs := List.replicate (IntKind.i64.wrap r104.2).toNat (0 : Int)) (ys := x_) (l := 0) (cx := (IntKind.i64.wrap r104.2).toNat) T hS (by kernel_rfl) (by kernel_rfl) (by kernel_rfl) (adAt_zero h108) (by kernel_rfl) h108 hN (by kernel_rfl) (by kernel_rfl) (by kernel_rfl) (Nat.zero_le _) ?_)
      intro a w109 hE h110 hS
      clear hN h108
      replace hO := hO.mv hE rfl rfl
      replace h1 := h1.mv hE rfl
      clear hE
      replace hS := hS.conv (t := 7) (x := .slice (some ⟨b105, 0, none⟩) (List.replicate (IntKind.i64.wrap r104.2).toNat (0 : Int)).length (IntKind.i64.wrap r104.2).toNat) (y := .slice (some ⟨b105, 0, none⟩) ((List.replicate (IntKind.i64.wrap r104.2).toNat (0 : Int)).take 0 ++ x_.take ((List.replicate (IntKind.i64.wrap r104.2).toNat (0 : Int)).length - 0) ++ (List.replicate (IntKind.i64.wrap r104.2).toNat (0 : Int)).drop (0 + min x_.length ((List.replicate (IntKind.i64.wrap r104.2).toNat (0 : Int)).length - 0))).length (IntKind.i64.wrap r104.2).toNat) (by kernel_rfl) (by simp only [List.length_append, List.length_take, List.length_drop]; congr 1 <;> omega)
      replace hS := hS.conv (t := 31) (x := .slice (some ⟨b105, 0, none⟩) (List.replicate (IntKind.i64.wrap r104.2).toNat (0 : Int)).length (IntKind.i64.wrap r104.2).toNat) (y := .slice (some ⟨b105, 0, none⟩) ((List.replicate (IntKind.i64.wrap r104.2).toNat (0 : Int)).take 0 ++ x_.take ((List.replicate (IntKind.i64.wrap r104.2).toNat (0 : Int)).length - 0) ++ (List.replicate (IntKind.i64.wrap r104.2).toNat (0 : Int)).drop (0 + min x_.length ((List.replicate (IntKind.i64.wrap r104.2).toNat (0 : Int)).length - 0))).length (IntKind.i64.wrap r104.2).toNat) (by kernel_rfl) (by simp only [List.length_append, List.length_take, List.length_drop]; congr 1 <;> omega)
      refine endP T hS (sp := []) (ks := [7, 8]) (bs := []) (sy' := ⟨[(7, V (.slice (some ⟨b105, 0, none⟩) ((List.replicate (IntKind.i64.wrap r104.2).toNat (0 : Int)).take 0 ++ x_.take ((List.replicate (IntKind.i64.wrap r104.2).toNat (0 : Int)).length - 0) ++ (List.replicate (IntKind.i64.wrap r104.2).toNat (0 : Int)).drop (0 + min x_.length ((List.replicate (IntKind.i64.wrap r104.2).toNat (0 : Int)).length - 0))).length (IntKind.i64.wrap r104.2).toNat)), (8, I ((min x_.length ((List.replicate (IntKind.i64.wrap r104.2).toNat (0 : Int)).length - 0) : Nat) : Int))], []⟩) (by kernel_rfl) ?_
      intro a hS
      refine wcut (fun a w => ∃ (ρ : Nat → Nat) (χ : Nat → Nat) (newslice_111 : List Int) (a112 : Option Addr) (c113 : Nat), VC44_J1 Q newslice_111 ∧ St Tryd.f44.ntmps ⟨[(7, V (.slice a112 newslice_111.length c113))], []⟩ ρ a w χ ∧ Old w0 χ0 w χ ∧ OS tI 3 w χ 1005 a112 newslice_111 c113) ?_ ?_
      · refine wblock ?_
        obtain ⟨I1, μ1, hm0, hm⟩ := hm
        refine wloop (σ := (List Int) × Int) (fun s a w => ∃ (ρ : Nat → Nat) (χ : Nat → Nat) (a118 : Option Addr) (c119 : Nat), I1 s.1 s.2 ∧ St Tryd.f44.ntmps ⟨[(7, V (.slice a118 s.1.length c119)), (8, I s.2)], []⟩ ρ a w χ ∧ Old w0 χ0 w χ ∧ OS tI 3 w χ 1005 a118 s.1 c119) (fun s => μ1 s.1 s.2) (⟨(List.replicate (IntKind.i64.wrap r104.2).toNat (0 : Int)).take 0 ++ x_.take ((List.replicate (IntKind.i64.wrap r104.2).toNat (0 : Int)).length - 0) ++ (List.replicate (IntKind.i64.wrap r104.2).toNat (0 : Int)).drop (0 + min x_.length ((List.replicate (IntKind.i64.wrap r104.2).toNat (0 : Int)).length - 0)), ((min x_.length ((List.replicate (IntKind.i64.wrap r104.2).toNat (0 : Int)).length - 0) : Nat) : Int)⟩) ?_ ?_
        · exact ⟨ρ, _, (some ⟨b105, 0, none⟩), (IntKind.i64.wrap r104.2).toNat, hm0, hS.sel [7, 8] [] (by kernel_rfl), hO, h110⟩
        · rintro ⟨newslice_117, n_121⟩ a w129 ⟨ρ, χ128, a118, c119, hI, hS, hO, h120⟩
          replace hm := hm newslice_117 n_121 hI
          clear hI hm0
          refine wseq ?_
          refine regP T hS (sp := []) (ks := [7, 8, 37]) (bs := []) (sy' := ⟨[(7, V (.slice a118 newslice_117.length c119)), (8, I n_121), (37, B (decide (n_121 < ((newslice_117.length : Nat) : Int))))], []⟩) (by kernel_rfl) ?_
          intro a hS
          refine wcond hS (b := decide (n_121 < ((newslice_117.length : Nat) : Int))) (by kernel_rfl) (fun hb => ?_) (fun hb => ?_)
          · replace hm := hm.1 hb
            refine wskip ?_
            refine wblock ?_
            refine drawnX [] mixed hS ?_
            intro w122 χ123 hS hE hD hH
            replace hO := hO.mv hE rfl rfl
            replace h120 := h120.mv hE rfl rfl
            clear hE
            refine take T [0, 1, 2, 4, 5] [] [7, 8, 38, 39, 40, 42, 43] hS (by kernel_rfl) (by kernel_rfl) (by kernel_rfl) hH (listed' := #[true, true, true, false, true, true, false, false, false, false]) (fuel := 5) (sy' := ⟨[(7, V (.slice a118 newslice_117.length c119)), (8, I n_121), (38, I n_121), (39, V (.slice a118 newslice_117.length c119)), (40, I n_121), (42, V (.slice a118 newslice_117.length c119)), (43, I n_121)], []⟩) (by kernel_rfl) (by rfl) ?_
            intro a hS
            obtain ⟨hq124, hm⟩ := hm
            refine dsliceL (E := 3) (k := .i64) (l := n_121) T 3 hS (by kernel_rfl) (by kernel_rfl) (by kernel_rfl) (by rfl) (by kernel_rfl) hH (by kernel_rfl) (by kernel_rfl) h120 (by kernel_rfl) (by kernel_rfl) hq124.1 hq124.2 ?_
            intro a hS
            obtain ⟨hq125, hm⟩ := hm
            refine dsliceH (E := 3) (k := .i64) (l := n_121) T 6 hS (by kernel_rfl) (by kernel_rfl) (by kernel_rfl) (by rfl) (by kernel_rfl) hH (by kernel_rfl) (by kernel_rfl) h120 (by kernel_rfl) (by kernel_rfl) hq125.1 hq125.2 ?_
            intro a hS
            obtain ⟨news, hN⟩ := (h120.srcTake n_121.toNat)
            refine only 7 (by kernel_rfl) (by rfl) (copyO (E := 3) (T := tI) (xs := newslice_117) (ys := newslice_117.take n_121.toNat) (l := n_121.toNat) (cx := c119 - n_121.toNat) T hS (by kernel_rfl) (by kernel_rfl) (by kernel_rfl) rfl (by kernel_rfl) h120 hN (by kernel_rfl) (by kernel_rfl) (by kernel_rfl) (by have := hq124.1; have := hq124.2; omega) ?_)
            intro a w126 hE h127 hS
            clear hN h120
            replace hO := hO.mv hE rfl rfl
            replace hD := hD.ev hE rfl
            clear hE
            replace hS := hS.conv (t := 7) (x := .slice a118 newslice_117.length c119) (y := .slice a118 (newslice_117.take n_121.toNat ++ (newslice_117.take n_121.toNat).take (newslice_117.length - n_121.toNat) ++ newslice_117.drop (n_121.toNat + min (newslice_117.take n_121.toNat).length (newslice_117.length - n_121.toNat))).length c119) (by kernel_rfl) (by have := hq124.1; have := hq124.2; simp only [List.length_append, List.length_take, List.length_drop]; congr 1 <;> omega)
            replace hS := hS.conv (t := 39) (x := .slice a118 newslice_117.length c119) (y := .slice a118 (newslice_117.take n_121.toNat ++ (newslice_117.take n_121.toNat).take (newslice_117.length - n_121.toNat) ++ newslice_117.drop (n_121.toNat + min (newslice_117.take n_121.toNat).length (newslice_117.length - n_121.toNat))).length c119) (by kernel_rfl) (by have := hq124.1; have := hq124.2; simp only [List.length_append, List.length_take, List.length_drop]; congr 1 <;> omega)
            replace hS := hS.conv (t := 42) (x := .slice a118 newslice_117.length c119) (y := .slice a118 (newslice_117.take n_121.toNat ++ (newslice_117.take n_121.toNat).take (newslice_117.length - n_121.toNat) ++ newslice_117.drop (n_121.toNat + min (newslice_117.take n_121.toNat).length (newslice_117.length - n_121.toNat))).length c119) (by kernel_rfl) (by have := hq124.1; have := hq124.2; simp only [List.length_append, List.length_take, List.length_drop]; congr 1 <;> omega)
            refine andH (Hold.of hS (bks := []) (by kernel_rfl) hD) ?_
            intro hH
            refine take T [8, 9] [] [7, 8] hS (by kernel_rfl) (by kernel_rfl) (by kernel_rfl) hH (listed' := #[true, true, true, true, true, true, true, true, true, true]) (fuel := 0) (sy' := ⟨[(7, V (.slice a118 (newslice_117.take n_121.toNat ++ (newslice_117.take n_121.toNat).take (newslice_117.length - n_121.toNat) ++ newslice_117.drop (n_121.toNat + min (newslice_117.take n_121.toNat).length (newslice_117.length - n_121.toNat))).length c119)), (8, I (IntKind.i64.wrap (n_121 + ((min (newslice_117.take n_121.toNat).length (newslice_117.length - n_121.toNat) : Nat) : Int))))], []⟩) (by kernel_rfl) (by rfl) ?_
            intro a hS
            refine drawnDone (by kernel_rfl) ?_
            clear hD hH
            replace hS := hS.sel [7, 8] [] (sy' := ⟨[(7, V (.slice a118 (newslice_117.take n_121.toNat ++ (newslice_117.take n_121.toNat).take (newslice_117.length - n_121.toNat) ++ newslice_117.drop (n_121.toNat + min (newslice_117.take n_121.toNat).length (newslice_117.length - n_121.toNat))).length c119)), (8, I (IntKind.i64.wrap (n_121 + ((min (newslice_117.take n_121.toNat).length (newslice_117.length - n_121.toNat) : Nat) : Int))))], []⟩) (by kernel_rfl)
            exact ⟨⟨newslice_117.take n_121.toNat ++ (newslice_117.take n_121.toNat).take (newslice_117.length - n_121.toNat) ++ newslice_117.drop (n_121.toNat + min (newslice_117.take n_121.toNat).length (newslice_117.length - n_121.toNat)), IntKind.i64.wrap (n_121 + ((min (newslice_117.take n_121.toNat).length (newslice_117.length - n_121.toNat) : Nat) : Int))⟩, ⟨ρ, _, a118, c119, hm.1, hS.sel [7, 8] [] (by kernel_rfl), hO, h127⟩, hm.2⟩
          · replace hm := hm.2 hb
            refine wexit (by rfl) ?_
            exact ⟨ρ, _, newslice_117, a118, c119, hm, hS.sel [7] [] (by kernel_rfl), hO, h120⟩
      · rintro a w131 ⟨ρ, χ130, newslice_111, a112, c113, hm, hS, hO, h114⟩
        unfold VC44_J1 at hm
        refine regP T hS (sp := []) (ks := [4]) (bs := []) (sy' := ⟨[(4, V (.slice a112 newslice_111.length c113))], []⟩) (by kernel_rfl) ?_
        intro a hS
        refine wret ?_
        obtain ⟨χ115, hE, hF⟩ := h114.freeze (by decide)
        replace hS := hS.ev hE (xone_box (by kernel_rfl))
        replace hO := hO.mv hE rfl rfl
        have h116 := hF; clear hE hF
        exact fin T hS hO (fun c => c) rfl (r := [.slice a112 newslice_111.length c113]) (by kernel_rfl) (fun χ' hM hC => ⟨newslice_111, hm, a112, c113, rfl, h116.m0 hM⟩)
theorem C44 (k55 : S55) (v : ∀ (x_ : List Int) (count : Int), preRep x_ count → VC44 x_ count (fun r => r = slices_Repeat_int_int x_ count)) : S44 := by
  intro w χ x_ count a1 c1   hp h1
  refine (W44 k55 w χ x_ count a1 c1   _ (v x_ count hp) h1).mono ?_
  rintro _ _ _ _ ⟨r, rfl, h⟩
  exact h
def S43 : Prop := ∀ (w : World) (χ : Nat → Nat) (x_ : Int) (cap1 : Int) (b1 : Nat) (i1 : Nat), preB1 x_ cap1 → Cell w χ b1 i1 3 [.int .i64 cap1] → Apart [i1] → Ret Tryd.prog 43 #[.int .i64 x_, .pointer (some ⟨b1, 0, none⟩)] (pR [i1]) w χ (fun w χ' v => ∃ (ra1 : Option Addr) (rc1 : Nat), v = .slice ra1 (objtext_bounds_1 x_ cap1).length rc1 ∧ RS tI w χ' ra1 (objtext_bounds_1 x_ cap1) rc1 ∧ Cell w χ' b1 i1 3 [.int .i64 cap1])
theorem hb43 : hasBody Tryd.prog 43 = true := by kernel_rfl
/-- replevin/objtext.bounds$1 -/
theorem W43 (k44 : S44) (w0 : World) (χ0 : Nat → Nat) (x_ : Int) (cap1 : Int) (b1 : Nat) (i1 : Nat) (Q : (List Int) → Prop) (hm : VC43 x_ cap1 Q) (hc1 : Cell w0 χ0 b1 i1 3 [.int .i64 cap1]) (hA : Apart [i1]) :
    Ret Tryd.prog 43 #[.int .i64 x_, .pointer (some ⟨b1, 0, none⟩)] (pR [i1]) w0 χ0 (fun w χ' v => ∃ r, Q r ∧ ∃ (ra1 : Option Addr) (rc1 : Nat), v = .slice ra1 r.length rc1 ∧ RS tI w χ' ra1 r rc1 ∧ Cell w χ' b1 i1 3 [.int .i64 cap1]) := by
  unfold VC43 at hm
  refine enterR Tryd.func43 rfl (f0of [(i1, 901)]) (fun id => (bif Nat.beq id 901 then b1 else 0)) (args := [I x_, Pt 901 0]) (bxs := [(901, (3, [I cap1]))]) (by kernel_rfl) rfl (BoxesOK.cons (by kernel_rfl) (hc1.map (f0of_at 0 hA.1 rfl)) BoxesOK.nil) (f0of_0 (fun q hq => (hA.2 q.1 (List.mem_map.2 ⟨q, hq, rfl⟩)).1)) ?_
  intro a hS hO hM
  have hP : Pin [(901, b1)] (fun id => (bif Nat.beq id 901 then b1 else 0)) := by intro q hq; simp at hq; rcases hq with rfl <;> rfl
  generalize (fun id => (bif Nat.beq id 901 then b1 else 0)) = ρ at hS hP
  clear hc1
  clear hM
  refine regP T hS (sp := []) (ks := [0, 1]) (bs := [901]) (sy' := ⟨[(0, I x_), (1, Pt 901 0)], [(901, (3, [I cap1]))]⟩) (by kernel_rfl) ?_
  intro a hS
  refine regO ?_
  refine opsP T hS 1 (sp := []) (ks := [1, 4]) (bs := [901]) (sy' := ⟨[(1, Pt 901 0), (4, I x_)], [(901, (3, [I cap1]))]⟩) (by kernel_rfl) ?_
  intro a hS
  refine op1 (lit (E := 3) (col := 0) (T := tI) (vals := [.int .i64 x_]) (ys := [x_]) T hS (by kernel_rfl) (by kernel_rfl) (by kernel_rfl) (by kernel_rfl) (by exact ⟨rfl, trivial⟩) rfl (by kernel_rfl) (by kernel_rfl) (by kernel_rfl) (by kernel_rfl) ?_)
  intro b101 a w102 χ103 hE h104 hN hS
  clear hN
  replace hO := hO.mv hE rfl rfl
  clear hE
  replace h104 := h104.rs0
  refine opsP T hS 1 (sp := []) (ks := [5, 6]) (bs := [901]) (sy' := ⟨[(5, V (.slice (some ⟨b101, 0, none⟩) [x_].length 1)), (6, I cap1)], [(901, (3, [I cap1]))]⟩) (by kernel_rfl) ?_
  intro a hS
  obtain ⟨hq, hm⟩ := hm
  refine op1 (call hS (by kernel_rfl) (by kernel_rfl) hb44 (by kernel_rfl) (fun _ _ => rfl) (k44 _ _ [x_] cap1 (some ⟨b101, 0, none⟩) 1 hq h104) ?_)
  intro v105 a w106 χ107 hE hp hS
  clear hq
  replace hO := hO.mv hE rfl rfl
  replace h104 := h104.mv hE rfl
  clear hE
  obtain ⟨a109, c110, hp, h111⟩ := hp
  obtain ⟨r108, hr⟩ : ∃ r, slices_Repeat_int_int [x_] cap1 = r := ⟨_, rfl⟩
  replace hm := hm r108 hr
  rw [hr] at hp h111
  clear hr
  subst hp
  replace hm := hm (h111.sm (by kernel_rfl))
  refine endP T hS (sp := []) (ks := [3]) (bs := [901]) (sy' := ⟨[(3, V (.slice a109 r108.length c110))], [(901, (3, [I cap1]))]⟩) (by kernel_rfl) ?_
  intro a hS
  refine wret ?_
  exact finR T hS hO (fun c h => f0of_zero (by kernel_rfl) h) (fun c h => f0of_else (l := [(i1, 901)]) h) (f1of [(i1, 901)]) rfl (r := [.slice a109 r108.length c110]) (by kernel_rfl) (fun χ' hM hC => ⟨r108, hm, a109, c110, rfl, h111.m0 hM, ((hS.cell (id := 901) (t := 3) (cs := [I cap1]) (by kernel_rfl)).out (f := (f1of [(i1, 901)])) hC (by kernel_rfl) (by kernel_rfl) (hP.at 0 rfl))⟩)
theorem C43 (k44 : S44) (v : ∀ (x_ : Int) (cap1 : Int), preB1 x_ cap1 → VC43 x_ cap1 (fun r => r = objtext_bounds_1 x_ cap1)) : S43 := by
  intro w χ x_ cap1   b1 i1 hp hc1 hA
  refine (W43 k44 w χ x_ cap1   b1 i1 _ (v x_ cap1 hp) hc1 hA).mono ?_
  rintro _ _ _ _ ⟨r, rfl, h⟩
  exact h
def S28 : Prop := ∀ (w : World) (χ : Nat → Nat) (n_ : Int), preBn n_ → Ret Tryd.prog 28 #[.int .i64 n_] xnone w χ (fun w χ' v => ∃ (ra1 : Option Addr) (rc1 : Nat) (ra2 : Option Addr) (rc2 : Nat), v = .tuple #[.slice ra1 ((objtext_bounds n_).1).length rc1, .slice ra2 ((objtext_bounds n_).2).length rc2] ∧ RS tI w χ' ra1 ((objtext_bounds n_).1) rc1 ∧ RS tI w χ' ra2 ((objtext_bounds n_).2) rc2)
theorem hb28 : hasBody Tryd.prog 28 = true := by kernel_rfl
/-- replevin/objtext.bounds -/
theorem W28 (k43 : S43) (w0 : World) (χ0 : Nat → Nat) (n_ : Int) (Q : (List Int) × (List Int) → Prop) (hm : VC28 n_ Q) :
    Ret Tryd.prog 28 #[.int .i64 n_] xnone w0 χ0 (fun w χ' v => ∃ r, Q r ∧ ∃ (ra1 : Option Addr) (rc1 : Nat) (ra2 : Option Addr) (rc2 : Nat), v = .tuple #[.slice ra1 r.1.length rc1, .slice ra2 r.2.length rc2] ∧ RS tI w χ' ra1 r.1 rc1 ∧ RS tI w χ' ra2 r.2 rc2) := by
  unfold VC28 at hm
  refine enter Tryd.func28 rfl (vals := [.int .i64 n_]) (by kernel_rfl) ?_
  intro ρ a hS hO hM
  clear hM
  refine regM T hS (sp := []) (ks := [1]) (bs := [2]) (sy' := ⟨[(1, Pt 2 0)], [(2, (3, [I n_]))]⟩) (by kernel_rfl) ?_
  intro ρ a w117 χ118 hS hE hr
  replace hO := hO.mv hE rfl rfl
  clear hE hr
  refine regP T hS (sp := []) (ks := [4]) (bs := [2]) (sy' := ⟨[(4, .f (.func 43) [] [.p 2 0])], [(2, (3, [I n_]))]⟩) (by kernel_rfl) ?_
  intro a hS
  refine regO ?_
  refine opsP T hS 1 (sp := []) (ks := [4, 6]) (bs := [2]) (sy' := ⟨[(4, .f (.func 43) [] [.p 2 0]), (6, .f (.func 43) [] [.p 2 0])], [(2, (3, [I n_]))]⟩) (by kernel_rfl) ?_
  intro a hS
  obtain ⟨hq, hm⟩ := hm
  refine op1 (callCR (fi := []) (cp := [.p 2 0]) hS (by kernel_rfl) (by kernel_rfl) hb43 (by kernel_rfl) (by kernel_rfl) (k43 _ _ 0 n_ (ρ 2) 2 hq (hS.cell (id := 2) (t := 3) (cs := [I n_]) (by kernel_rfl)) ⟨by decide, by decide⟩) ?_)
  intro v101 a w102 χ103 hE hp hS
  clear hq
  replace hO := hO.mv hE rfl rfl
  clear hE
  obtain ⟨a105, c106, hp, h107, hc108⟩ := hp
  obtain ⟨r104, hr⟩ : ∃ r, objtext_bounds_1 0 n_ = r := ⟨_, rfl⟩
  replace hm := hm r104 hr
  rw [hr] at hp h107
  clear hr
  subst hp
  replace hm := hm (h107.sm (by kernel_rfl))
  replace hS := hS.addbox (id := 2) (t := 3) (cs := [I n_]) (by kernel_rfl) hc108
  clear hc108
  refine opsP T hS 1 (sp := []) (ks := [7, 8]) (bs := [2]) (sy' := ⟨[(7, V (.slice a105 r104.length c106)), (8, .f (.func 43) [] [.p 2 0])], [(2, (3, [I n_]))]⟩) (by kernel_rfl) ?_
  intro a hS
  obtain ⟨hq, hm⟩ := hm
  refine op1 (callCR (fi := []) (cp := [.p 2 0]) hS (by kernel_rfl) (by kernel_rfl) hb43 (by kernel_rfl) (by kernel_rfl) (k43 _ _ 1000000 n_ (ρ 2) 2 hq (hS.cell (id := 2) (t := 3) (cs := [I n_]) (by kernel_rfl)) ⟨by decide, by decide⟩) ?_)
  intro v109 a w110 χ111 hE hp hS
  clear hq
  replace hO := hO.mv hE rfl rfl
  replace h107 := h107.mv hE rfl
  clear hE
  obtain ⟨a113, c114, hp, h115, hc116⟩ := hp
  obtain ⟨r112, hr⟩ : ∃ r, objtext_bounds_1 1000000 n_ = r := ⟨_, rfl⟩
  replace hm := hm r112 hr
  rw [hr] at hp h115
  clear hr
  subst hp
  replace hm := hm (h115.sm (by kernel_rfl))
  replace hS := hS.addbox (id := 2) (t := 3) (cs := [I n_]) (by kernel_rfl) hc116
  clear hc116
  refine endP T hS (sp := []) (ks := [2, 3]) (bs := []) (sy' := ⟨[(2, V (.slice a105 r104.length c106)), (3, V (.slice a113 r112.length c114))], []⟩) (by kernel_rfl) ?_
  intro a hS
  refine wret ?_
  exact fin T hS hO (fun c => c) rfl (r := [.slice a105 r104.length c106, .slice a113 r112.length c114]) (by kernel_rfl) (fun χ' hM hC => ⟨(r104, r112), hm, a105, c106, a113, c114, rfl, h107.m0 hM, h115.m0 hM⟩)
theorem C28 (k43 : S43) (v : ∀ (n_ : Int), preBn n_ → VC28 n_ (fun r => r = objtext_bounds n_)) : S28 := by
  intro w χ n_    hp 
  refine (W28 k43 w χ n_    _ (v n_ hp)).mono ?_
  rintro _ _ _ _ ⟨r, rfl, h⟩
  exact h
def S21 : Prop := ∀ (w : World) (χ : Nat → Nat) (l_ : List Token_Token) (word : List UInt8) (lo : List Int) (hi : List Int) (end_ : Int) (a1 : Option Addr) (c1 : Nat) (a2 : Option Addr) (c2 : Nat) (a3 : Option Addr) (c3 : Nat), preNT l_ word lo hi end_ → RS tToken_Token w χ a1 l_ c1 → RS tI w χ a2 lo c2 → RS tI w χ a3 hi c3 → Ret Tryd.prog 21 #[.slice a1 l_.length c1, .string (bs word), .slice a2 lo.length c2, .slice a3 hi.length c3, .int .i64 end_] xnone w χ (fun w χ' v => ∃ (ra1 : Option Addr) (rc1 : Nat), v = .tuple #[.slice ra1 ((objtext_Numbers l_ word lo hi end_).1).length rc1, .int .i64 ((objtext_Numbers l_ word lo hi end_).2.1), .int .i64 ((objtext_Numbers l_ word lo hi end_).2.2)] ∧ RS tI w χ' ra1 ((objtext_Numbers l_ word lo hi end_).1) rc1)
theorem hb21 : hasBody Tryd.prog 21 = true := by kernel_rfl
/-- replevin/objtext.Numbers -/
theorem W21 (k38 : S38) (w0 : World) (χ0 : Nat → Nat) (l_ : List Token_Token) (word : List UInt8) (lo : List Int) (hi : List Int) (end_ : Int) (a1 : Option Addr) (c1 : Nat) (a2 : Option Addr) (c2 : Nat) (a3 : Option Addr) (c3 : Nat) (Q : (List Int) × Int × Int → Prop) (hm : VC21 l_ word lo hi end_ Q) (h1 : RS tToken_Token w0 χ0 a1 l_ c1) (h2 : RS tI w0 χ0 a2 lo c2) (h3 : RS tI w0 χ0 a3 hi c3) :
    Ret Tryd.prog 21 #[.slice a1 l_.length c1, .string (bs word), .slice a2 lo.length c2, .slice a3 hi.length c3, .int .i64 end_] xnone w0 χ0 (fun w χ' v => ∃ r, Q r ∧ ∃ (ra1 : Option Addr) (rc1 : Nat), v = .tuple #[.slice ra1 r.1.length rc1, .int .i64 r.2.1, .int .i64 r.2.2] ∧ RS tI w χ' ra1 r.1 rc1) := by
  unfold VC21 at hm
  replace hm := hm (h1.sm (by kernel_rfl))
  replace hm := hm (h2.sm (by kernel_rfl))
  replace hm := hm (h3.sm (by kernel_rfl))
  refine enter Tryd.func21 rfl (vals := [.slice a1 l_.length c1, .string (bs word), .slice a2 lo.length c2, .slice a3 hi.length c3, .int .i64 end_]) (by kernel_rfl) ?_
  intro ρ a hS hO hM
  replace h1 := h1.m0 hM
  replace h2 := h2.m0 hM
  replace h3 := h3.m0 hM
  clear hM
  refine regP T hS (sp := []) (ks := [0, 1, 2, 3, 4]) (bs := []) (sy' := ⟨[(0, V (.slice a1 l_.length c1)), (1, V (.string (bs word))), (2, V (.slice a2 lo.length c2)), (3, V (.slice a3 hi.length c3)), (4, I end_)], []⟩) (by kernel_rfl) ?_
  intro a hS
  refine wseq ?_
  refine regP T hS (sp := []) (ks := [0, 1, 2, 3, 4, 21]) (bs := []) (sy' := ⟨[(0, V (.slice a1 l_.length c1)), (1, V (.string (bs word))), (2, V (.slice a2 lo.length c2)), (3, V (.slice a3 hi.length c3)), (4, I end_), (21, B (((l_.length : Nat) : Int) == 0))], []⟩) (by kernel_rfl) ?_
  intro a hS
  refine wcond hS (b := (((l_.length : Nat) : Int) == 0)) (by kernel_rfl) (fun hb => ?_) (fun hb => ?_)
  · replace hm := hm.1 hb
    refine regP T hS (sp := []) (ks := [10, 11, 12]) (bs := []) (sy' := ⟨[(10, V (.slice none 0 0)), (11, I end_), (12, I 4)], []⟩) (by kernel_rfl) ?_
    intro a hS
    refine wret ?_
    exact fin T hS hO (fun c => c) rfl (r := [.slice none 0 0, .int .i64 end_, .int .i64 4]) (by kernel_rfl) (fun χ' hM hC => ⟨([], end_, 4), hm, none, 0, rfl, RS.empty _ _ _⟩)
  · replace hm := hm.2 hb
    refine wskip ?_
    refine wseq ?_
    refine regO ?_
    refine opsP T hS 1 (sp := []) (ks := [0, 1, 2, 3, 4, 23]) (bs := []) (sy' := ⟨[(0, V (.slice a1 l_.length c1)), (1, V (.string (bs word))), (2, V (.slice a2 lo.length c2)), (3, V (.slice a3 hi.length c3)), (4, I end_), (23, V (.slice a1 l_.length c1))], []⟩) (by kernel_rfl) ?_
    intro a hS
    obtain ⟨hq, hm⟩ := hm
    refine op1 (index (e := 60) (k := .i64) T hS (by kernel_rfl) (by kernel_rfl) (by kernel_rfl) (by kernel_rfl) h1 (by kernel_rfl) (by kernel_rfl) hq.1 hq.2 ?_)
    intro A101 a h102 hS
    clear hq
    refine op1 (fieldA (off := 2) (fsz := 1) (ft := 9) (TF := tStr) (y := (gi l_ 0).Text) T hS (by kernel_rfl) (by kernel_rfl) (by kernel_rfl) h102 (by kernel_rfl) (by kernel_rfl) (by kernel_rfl) (fun cs h => Token_Token_f2 h) ?_)
    intro A103 a h104 hS
    refine op1 (load1 T hS (by kernel_rfl) (by kernel_rfl) (by kernel_rfl) h104 rfl (by kernel_rfl) ?_)
    intro v105 a hv hS
    cases hv
    refine endP T hS (sp := []) (ks := [0, 2, 3, 4, 28]) (bs := []) (sy' := ⟨[(0, V (.slice a1 l_.length c1)), (2, V (.slice a2 lo.length c2)), (3, V (.slice a3 hi.length c3)), (4, I end_), (28, B (!(((gi l_ 0).Text) == word)))], []⟩) (by kernel_rfl) ?_
    intro a hS
    refine wcond hS (b := (!(((gi l_ 0).Text) == word))) (by kernel_rfl) (fun hb => ?_) (fun hb => ?_)
    · replace hm := hm.1 hb
      refine drawnSX [] mixed hS ?_
      intro w106 χ107 hS hE hD hH
      replace hO := hO.mv hE rfl rfl
      replace h1 := h1.mv hE rfl
      clear hE
      refine take T [0, 4] [] [10, 29] hS (by kernel_rfl) (by kernel_rfl) (by kernel_rfl) hH (listed' := #[true, false, false, false, true, false, false]) (fuel := 5) (sy' := ⟨[(10, V (.slice none 0 0)), (29, V (.slice a1 l_.length c1))], []⟩) (by kernel_rfl) (by rfl) ?_
      intro a hS
      obtain ⟨hq, hm⟩ := hm
      refine dindex (e := 60) (k := .i64) T 1 hS (by kernel_rfl) (by kernel_rfl) (by kernel_rfl) (by rfl) (by kernel_rfl) hH (by kernel_rfl) (by kernel_rfl) h1 (by kernel_rfl) (by kernel_rfl) hq.1 hq.2 ?_
      intro A108 a h109 hS
      clear hq
      have h109b := h109.here
      refine dfieldA (off := 1) (fsz := 1) (ft := 3) (TF := tI) (y := (gi l_ 0).At) 2 T hS (by kernel_rfl) (by kernel_rfl) (by kernel_rfl) (by rfl) (by kernel_rfl) hH (by kernel_rfl) h109 (by kernel_rfl) (by kernel_rfl) (by kernel_rfl) (fun cs h => Token_Token_f1 h) ?_
      intro A110 a h111 hbl hS
      have h111b := h109b
      rw [← hbl] at h111b
      clear hbl
      refine dload1 T 3 hS (by kernel_rfl) (by kernel_rfl) (by kernel_rfl) (by rfl) (by kernel_rfl) hH (by kernel_rfl) h111 h111b rfl (by kernel_rfl) ?_
      intro v112 a hv hS
      cases hv
      refine take T [5, 6] [] [10, 11, 12] hS (by kernel_rfl) (by kernel_rfl) (by kernel_rfl) hH (listed' := #[true, true, true, true, true, true, true]) (fuel := 0) (sy' := ⟨[(10, V (.slice none 0 0)), (11, I ((gi l_ 0).At)), (12, I 8)], []⟩) (by kernel_rfl) (by rfl) ?_
      intro a hS
      refine drawnDone (by kernel_rfl) ?_
      clear hD hH
      replace hS := hS.sel [10, 11, 12] [] (sy' := ⟨[(10, V (.slice none 0 0)), (11, I ((gi l_ 0).At)), (12, I 8)], []⟩) (by kernel_rfl)
      refine wret ?_
      exact fin T hS hO (fun c => c) rfl (r := [.slice none 0 0, .int .i64 ((gi l_ 0).At), .int .i64 8]) (by kernel_rfl) (fun χ' hM hC => ⟨([], (gi l_ 0).At, 8), hm, none, 0, rfl, RS.empty _ _ _⟩)
    · replace hm := hm.2 hb
      refine wskip ?_
      refine regO ?_
      refine opsP T hS 4 (sp := []) (ks := [0, 2, 3, 4, 33, 36]) (bs := []) (sy' := ⟨[(0, V (.slice a1 l_.length c1)), (2, V (.slice a2 lo.length c2)), (3, V (.slice a3 hi.length c3)), (4, I end_), (33, V (.slice a1 l_.length c1)), (36, I (IntKind.i64.wrap (((l_.length : Nat) : Int) - 1)))], []⟩) (by kernel_rfl) ?_
      intro a hS
      obtain ⟨hq, hm⟩ := hm
      refine op1 (index (e := 60) (k := .i64) T hS (by kernel_rfl) (by kernel_rfl) (by kernel_rfl) (by kernel_rfl) h1 (by kernel_rfl) (by kernel_rfl) hq.1 hq.2 ?_)
      intro A113 a h114 hS
      clear hq
      refine op1 (loadA T hS (by kernel_rfl) (by kernel_rfl) (by kernel_rfl) h114 (by kernel_rfl) (by kernel_rfl) ?_)
      intro v115 a hv hS
      subst hv
      refine endM T hS (sp := []) (ks := [0, 2, 3, 4, 13]) (bs := [14]) (sy' := ⟨[(0, V (.slice a1 l_.length c1)), (2, V (.slice a2 lo.length c2)), (3, V (.slice a3 hi.length c3)), (4, I end_), (13, Pt 14 0)], [(14, (60, [I ((gi l_ (IntKind.i64.wrap (((l_.length : Nat) : Int) - 1))).Line), I ((gi l_ (IntKind.i64.wrap (((l_.length : Nat) : Int) - 1))).At), V (.string (bs ((gi l_ (IntKind.i64.wrap (((l_.length : Nat) : Int) - 1))).Text)))]))]⟩) (by kernel_rfl) ?_
      intro ρ a w172 χ173 hS hE hr
      replace hO := hO.mv hE rfl rfl
      replace h1 := h1.mv hE rfl
      replace h2 := h2.mv hE rfl
      replace h3 := h3.mv hE rfl
      clear hE hr
      refine regP T hS (sp := []) (ks := [0, 2, 3, 4, 13, 14]) (bs := [14]) (sy' := ⟨[(0, V (.slice a1 l_.length c1)), (2, V (.slice a2 lo.length c2)), (3, V (.slice a3 hi.length c3)), (4, I end_), (13, Pt 14 0), (14, V (.slice none 0 0))], [(14, (60, [I ((gi l_ (IntKind.i64.wrap (((l_.length : Nat) : Int) - 1))).Line), I ((gi l_ (IntKind.i64.wrap (((l_.length : Nat) : Int) - 1))).At), V (.string (bs ((gi l_ (IntKind.i64.wrap (((l_.length : Nat) : Int) - 1))).Text)))]))]⟩) (by kernel_rfl) ?_
      intro a hS
      refine wcut (fun a w => ∃ (ρ : Nat → Nat) (χ : Nat → Nat) (out_117 : List Int) (a118 : Option Addr) (c119 : Nat), VC21_J1 l_ end_ Q out_117 ∧ St Tryd.f21.ntmps ⟨[(0, V (.slice a1 l_.length c1)), (4, I end_), (14, V (.slice a118 out_117.length c119))], []⟩ ρ a w χ ∧ Old w0 χ0 w χ ∧ RS tToken_Token w χ a1 l_ c1 ∧ OS tI 3 w χ 1011 a118 out_117 c119) ?_ ?_
      · refine regP T hS (sp := []) (ks := [0, 2, 3, 4, 13, 14, 43, 44]) (bs := [14]) (sy' := ⟨[(0, V (.slice a1 l_.length c1)), (2, V (.slice a2 lo.length c2)), (3, V (.slice a3 hi.length c3)), (4, I end_), (13, Pt 14 0), (14, V (.slice none 0 0)), (43, I (if ((hi.length : Nat) : Int) < ((lo.length : Nat) : Int) then ((hi.length : Nat) : Int) else ((lo.length : Nat) : Int))), (44, I 0)], [(14, (60, [I ((gi l_ (IntKind.i64.wrap (((l_.length : Nat) : Int) - 1))).Line), I ((gi l_ (IntKind.i64.wrap (((l_.length : Nat) : Int) - 1))).At), V (.string (bs ((gi l_ (IntKind.i64.wrap (((l_.length : Nat) : Int) - 1))).Text)))]))]⟩) (by kernel_rfl) ?_
        intro a hS
        refine wblock ?_
        obtain ⟨I1, μ1, hm0, hm⟩ := hm
        refine wloop (σ := (List Int) × Int) (fun s a w => ∃ (ρ : Nat → Nat) (χ : Nat → Nat) (a134 : Option Addr) (c135 : Nat), I1 s.1 s.2 ∧ St Tryd.f21.ntmps ⟨[(0, V (.slice a1 l_.length c1)), (2, V (.slice a2 lo.length c2)), (3, V (.slice a3 hi.length c3)), (4, I end_), (13, Pt 14 0), (14, V (.slice a134 s.1.length c135)), (43, I (if ((hi.length : Nat) : Int) < ((lo.length : Nat) : Int) then ((hi.length : Nat) : Int) else ((lo.length : Nat) : Int))), (44, I s.2)], [(14, (60, [I ((gi l_ (IntKind.i64.wrap (((l_.length : Nat) : Int) - 1))).Line), I ((gi l_ (IntKind.i64.wrap (((l_.length : Nat) : Int) - 1))).At), V (.string (bs ((gi l_ (IntKind.i64.wrap (((l_.length : Nat) : Int) - 1))).Text)))]))]⟩ ρ a w χ ∧ Old w0 χ0 w χ ∧ RS tToken_Token w χ a1 l_ c1 ∧ RS tI w χ a2 lo c2 ∧ RS tI w χ a3 hi c3 ∧ OS tI 3 w χ 1011 a134 s.1 c135) (fun s => μ1 s.1 s.2) (⟨[], 0⟩) ?_ ?_
        · exact ⟨ρ, _, none, 0, hm0, hS.sel [0, 2, 3, 4, 13, 14, 43, 44] [14] (by kernel_rfl), hO, h1, h2, h3, (OS.nil _ _ _ _ _)⟩
        · rintro ⟨out_133, x_137⟩ a w169 ⟨ρ, χ168, a134, c135, hI, hS, hO, h130, h131, h132, h136⟩
          replace hm := hm out_133 x_137 hI
          clear hI hm0
          refine regP T hS (sp := []) (ks := [0, 2, 3, 4, 13, 14, 43, 44, 45]) (bs := [14]) (sy' := ⟨[(0, V (.slice a1 l_.length c1)), (2, V (.slice a2 lo.length c2)), (3, V (.slice a3 hi.length c3)), (4, I end_), (13, Pt 14 0), (14, V (.slice a134 out_133.length c135)), (43, I (if ((hi.length : Nat) : Int) < ((lo.length : Nat) : Int) then ((hi.length : Nat) : Int) else ((lo.length : Nat) : Int))), (44, I x_137), (45, B (decide (x_137 < (if ((hi.length : Nat) : Int) < ((lo.length : Nat) : Int) then ((hi.length : Nat) : Int) else ((lo.length : Nat) : Int)))))], [(14, (60, [I ((gi l_ (IntKind.i64.wrap (((l_.length : Nat) : Int) - 1))).Line), I ((gi l_ (IntKind.i64.wrap (((l_.length : Nat) : Int) - 1))).At), V (.string (bs ((gi l_ (IntKind.i64.wrap (((l_.length : Nat) : Int) - 1))).Text)))]))]⟩) (by kernel_rfl) ?_
          intro a hS
          refine wseq ?_
          refine wcond hS (b := decide (x_137 < (if ((hi.length : Nat) : Int) < ((lo.length : Nat) : Int) then ((hi.length : Nat) : Int) else ((lo.length : Nat) : Int)))) (by kernel_rfl) (fun hb => ?_) (fun hb => ?_)
          · replace hm := hm.1 hb
            refine wskip ?_
            refine wseq ?_
            refine wblock ?_
            refine regP T hS (sp := []) (ks := [0, 2, 3, 4, 13, 14, 15, 43, 44]) (bs := [14]) (sy' := ⟨[(0, V (.slice a1 l_.length c1)), (2, V (.slice a2 lo.length c2)), (3, V (.slice a3 hi.length c3)), (4, I end_), (13, Pt 14 0), (14, V (.slice a134 out_133.length c135)), (15, I x_137), (43, I (if ((hi.length : Nat) : Int) < ((lo.length : Nat) : Int) then ((hi.length : Nat) : Int) else ((lo.length : Nat) : Int))), (44, I x_137)], [(14, (60, [I ((gi l_ (IntKind.i64.wrap (((l_.length : Nat) : Int) - 1))).Line), I ((gi l_ (IntKind.i64.wrap (((l_.length : Nat) : Int) - 1))).At), V (.string (bs ((gi l_ (IntKind.i64.wrap (((l_.length : Nat) : Int) - 1))).Text)))]))]⟩) (by kernel_rfl) ?_
            intro a hS
            refine wseq ?_
            refine regP T hS (sp := []) (ks := [0, 2, 3, 4, 13, 14, 15, 43, 44, 51]) (bs := [14]) (sy' := ⟨[(0, V (.slice a1 l_.length c1)), (2, V (.slice a2 lo.length c2)), (3, V (.slice a3 hi.length c3)), (4, I end_), (13, Pt 14 0), (14, V (.slice a134 out_133.length c135)), (15, I x_137), (43, I (if ((hi.length : Nat) : Int) < ((lo.length : Nat) : Int) then ((hi.length : Nat) : Int) else ((lo.length : Nat) : Int))), (44, I x_137), (51, B (decide ((IntKind.i64.wrap (x_137 + 1)) ≥ ((l_.length : Nat) : Int))))], [(14, (60, [I ((gi l_ (IntKind.i64.wrap (((l_.length : Nat) : Int) - 1))).Line), I ((gi l_ (IntKind.i64.wrap (((l_.length : Nat) : Int) - 1))).At), V (.string (bs ((gi l_ (IntKind.i64.wrap (((l_.length : Nat) : Int) - 1))).Text)))]))]⟩) (by kernel_rfl) ?_
            intro a hS
            refine wcond hS (b := decide ((IntKind.i64.wrap (x_137 + 1)) ≥ ((l_.length : Nat) : Int))) (by kernel_rfl) (fun hb => ?_) (fun hb => ?_)
            · replace hm := hm.1 hb
              refine drawnSX [14] mixed hS ?_
              intro w138 χ139 hS hE hD hH
              replace hO := hO.mv hE rfl rfl
              clear hE
              refine take T [0, 2, 6, 1, 3, 4, 5, 7, 8] [14] [10, 11, 12] hS (by kernel_rfl) (by kernel_rfl) (by kernel_rfl) hH (listed' := #[true, true, true, true, true, true, true, true, true]) (fuel := 0) (sy' := ⟨[(10, V (.slice none 0 0)), (11, I (IntKind.i64.wrap (((gi l_ (IntKind.i64.wrap (((l_.length : Nat) : Int) - 1))).At) + ((((gi l_ (IntKind.i64.wrap (((l_.length : Nat) : Int) - 1))).Text).length : Nat) : Int)))), (12, I 4)], [(14, (60, [I ((gi l_ (IntKind.i64.wrap (((l_.length : Nat) : Int) - 1))).Line), I ((gi l_ (IntKind.i64.wrap (((l_.length : Nat) : Int) - 1))).At), V (.string (bs ((gi l_ (IntKind.i64.wrap (((l_.length : Nat) : Int) - 1))).Text)))]))]⟩) (by kernel_rfl) (by rfl) ?_
              intro a hS
              refine drawnDone (by kernel_rfl) ?_
              clear hD hH
              replace hS := hS.sel [10, 11, 12] [] (sy' := ⟨[(10, V (.slice none 0 0)), (11, I (IntKind.i64.wrap (((gi l_ (IntKind.i64.wrap (((l_.length : Nat) : Int) - 1))).At) + ((((gi l_ (IntKind.i64.wrap (((l_.length : Nat) : Int) - 1))).Text).length : Nat) : Int)))), (12, I 4)], []⟩) (by kernel_rfl)
              refine wret ?_
              exact fin T hS hO (fun c => c) rfl (r := [.slice none 0 0, .int .i64 (IntKind.i64.wrap (((gi l_ (IntKind.i64.wrap (((l_.length : Nat) : Int) - 1))).At) + ((((gi l_ (IntKind.i64.wrap (((l_.length : Nat) : Int) - 1))).Text).length : Nat) : Int))), .int .i64 4]) (by kernel_rfl) (fun χ' hM hC => ⟨([], IntKind.i64.wrap (((gi l_ (IntKind.i64.wrap (((l_.length : Nat) : Int) - 1))).At) + ((((gi l_ (IntKind.i64.wrap (((l_.length : Nat) : Int) - 1))).Text).length : Nat) : Int)), 4), hm, none, 0, rfl, RS.empty _ _ _⟩)
            · replace hm := hm.2 hb
              refine wskip ?_
              refine regO ?_
              refine opsP T hS 3 (sp := []) (ks := [0, 2, 3, 4, 13, 14, 15, 43, 44, 58, 60]) (bs := [14]) (sy' := ⟨[(0, V (.slice a1 l_.length c1)), (2, V (.slice a2 lo.length c2)), (3, V (.slice a3 hi.length c3)), (4, I end_), (13, Pt 14 0), (14, V (.slice a134 out_133.length c135)), (15, I x_137), (43, I (if ((hi.length : Nat) : Int) < ((lo.length : Nat) : Int) then ((hi.length : Nat) : Int) else ((lo.length : Nat) : Int))), (44, I x_137), (58, V (.slice a1 l_.length c1)), (60, I (IntKind.i64.wrap (x_137 + 1)))], [(14, (60, [I ((gi l_ (IntKind.i64.wrap (((l_.length : Nat) : Int) - 1))).Line), I ((gi l_ (IntKind.i64.wrap (((l_.length : Nat) : Int) - 1))).At), V (.string (bs ((gi l_ (IntKind.i64.wrap (((l_.length : Nat) : Int) - 1))).Text)))]))]⟩) (by kernel_rfl) ?_
              intro a hS
              obtain ⟨hq, hm⟩ := hm
              refine op1 (index (e := 60) (k := .i64) T hS (by kernel_rfl) (by kernel_rfl) (by kernel_rfl) (by kernel_rfl) h130 (by kernel_rfl) (by kernel_rfl) hq.1 hq.2 ?_)
              intro A140 a h141 hS
              clear hq
              refine op1 (loadA T hS (by kernel_rfl) (by kernel_rfl) (by kernel_rfl) h141 (by kernel_rfl) (by kernel_rfl) ?_)
              intro v142 a hv hS
              subst hv
              refine endM T hS (sp := []) (ks := [0, 2, 3, 4, 13, 14, 15, 16, 43, 44]) (bs := [14, 17]) (sy' := ⟨[(0, V (.slice a1 l_.length c1)), (2, V (.slice a2 lo.length c2)), (3, V (.slice a3 hi.length c3)), (4, I end_), (13, Pt 14 0), (14, V (.slice a134 out_133.length c135)), (15, I x_137), (16, Pt 17 0), (43, I (if ((hi.length : Nat) : Int) < ((lo.length : Nat) : Int) then ((hi.length : Nat) : Int) else ((lo.length : Nat) : Int))), (44, I x_137)], [(14, (60, [I ((gi l_ (IntKind.i64.wrap (((l_.length : Nat) : Int) - 1))).Line), I ((gi l_ (IntKind.i64.wrap (((l_.length : Nat) : Int) - 1))).At), V (.string (bs ((gi l_ (IntKind.i64.wrap (((l_.length : Nat) : Int) - 1))).Text)))])), (17, (60, [I ((gi l_ (IntKind.i64.wrap (x_137 + 1))).Line), I ((gi l_ (IntKind.i64.wrap (x_137 + 1))).At), V (.string (bs ((gi l_ (IntKind.i64.wrap (x_137 + 1))).Text)))]))]⟩) (by kernel_rfl) ?_
              intro ρ a w166 χ167 hS hE hr
              replace hO := hO.mv hE rfl rfl
              replace h130 := h130.mv hE rfl
              replace h131 := h131.mv hE rfl
              replace h132 := h132.mv hE rfl
              replace h136 := h136.mv hE rfl rfl
              clear hE hr
              refine drawnSX [14, 17] mixed hS ?_
              intro w143 χ144 hS hE hD hH
              replace hO := hO.mv hE rfl rfl
              replace h130 := h130.mv hE rfl
              replace h131 := h131.mv hE rfl
              replace h132 := h132.mv hE rfl
              replace h136 := h136.mv hE rfl rfl
              clear hE
              refine take T [0, 2, 3, 6, 7, 1] [14, 17] [0, 2, 3, 4, 13, 14, 16, 43, 44, 65, 66, 67, 70, 71] hS (by kernel_rfl) (by kernel_rfl) (by kernel_rfl) hH (listed' := #[true, true, true, true, false, false, true, true, false, false, false, false, false, false, false, false]) (fuel := 10) (sy' := ⟨[(0, V (.slice a1 l_.length c1)), (2, V (.slice a2 lo.length c2)), (3, V (.slice a3 hi.length c3)), (4, I end_), (13, Pt 14 0), (14, V (.slice a134 out_133.length c135)), (16, Pt 17 0), (43, I (if ((hi.length : Nat) : Int) < ((lo.length : Nat) : Int) then ((hi.length : Nat) : Int) else ((lo.length : Nat) : Int))), (44, I x_137), (65, V (.string (bs ((gi l_ (IntKind.i64.wrap (x_137 + 1))).Text)))), (66, V (.slice a2 lo.length c2)), (67, I x_137), (70, V (.slice a3 hi.length c3)), (71, I x_137)], [(14, (60, [I ((gi l_ (IntKind.i64.wrap (((l_.length : Nat) : Int) - 1))).Line), I ((gi l_ (IntKind.i64.wrap (((l_.length : Nat) : Int) - 1))).At), V (.string (bs ((gi l_ (IntKind.i64.wrap (((l_.length : Nat) : Int) - 1))).Text)))])), (17, (60, [I ((gi l_ (IntKind.i64.wrap (x_137 + 1))).Line), I ((gi l_ (IntKind.i64.wrap (x_137 + 1))).At), V (.string (bs ((gi l_ (IntKind.i64.wrap (x_137 + 1))).Text)))]))]⟩) (by kernel_rfl) (by rfl) ?_
              intro a hS
              obtain ⟨hq, hm⟩ := hm
              refine dindex (e := 3) (k := .i64) T 4 hS (by kernel_rfl) (by kernel_rfl) (by kernel_rfl) (by rfl) (by kernel_rfl) hH (by kernel_rfl) (by kernel_rfl) h131 (by kernel_rfl) (by kernel_rfl) hq.1 hq.2 ?_
              intro A145 a h146 hS
              clear hq
              have h146b := h146.here
              refine dload1 T 5 hS (by kernel_rfl) (by kernel_rfl) (by kernel_rfl) (by rfl) (by kernel_rfl) hH (by kernel_rfl) h146 h146b rfl (by kernel_rfl) ?_
              intro v147 a hv hS
              cases hv
              obtain ⟨hq, hm⟩ := hm
              refine dindex (e := 3) (k := .i64) T 8 hS (by kernel_rfl) (by kernel_rfl) (by kernel_rfl) (by rfl) (by kernel_rfl) hH (by kernel_rfl) (by kernel_rfl) h132 (by kernel_rfl) (by kernel_rfl) hq.1 hq.2 ?_
              intro A148 a h149 hS
              clear hq
              have h149b := h149.here
              refine dload1 T 9 hS (by kernel_rfl) (by kernel_rfl) (by kernel_rfl) (by rfl) (by kernel_rfl) hH (by kernel_rfl) h149 h149b rfl (by kernel_rfl) ?_
              intro v150 a hv hS
              cases hv
              obtain ⟨hq, hm⟩ := hm
              refine only 10 (by kernel_rfl) (by rfl) (call hS (by kernel_rfl) (by kernel_rfl) hb38 (by kernel_rfl) (fun _ _ => rfl) (k38 _ _ ((gi l_ (IntKind.i64.wrap (x_137 + 1))).Text) (gi lo x_137) (gi hi x_137) hq) ?_)
              intro v151 a w152 χ153 hE hp hS
              clear hq
              replace hO := hO.mv hE rfl rfl
              replace hD := hD.ev hE rfl
              replace h130 := h130.mv hE rfl
              replace h131 := h131.mv hE rfl
              replace h132 := h132.mv hE rfl
              replace h136 := h136.mv hE rfl rfl
              replace h146 := h146.mv hE rfl
              replace h149 := h149.mv hE rfl
              clear hE
              obtain ⟨r154, hr⟩ : ∃ r, token_Number ((gi l_ (IntKind.i64.wrap (x_137 + 1))).Text) (gi lo x_137) (gi hi x_137) = r := ⟨_, rfl⟩
              replace hm := hm r154 hr
              rw [hr] at hp
              clear hr
              subst hp
              replace hS := hS.sel [0, 2, 3, 4, 13, 14, 16, 43, 44, 65, 66, 67, 70, 71, 68, 69, 72, 73, 74] [14, 17] (sy' := ⟨[(0, V (.slice a1 l_.length c1)), (2, V (.slice a2 lo.length c2)), (3, V (.slice a3 hi.length c3)), (4, I end_), (13, Pt 14 0), (14, V (.slice a134 out_133.length c135)), (16, Pt 17 0), (43, I (if ((hi.length : Nat) : Int) < ((lo.length : Nat) : Int) then ((hi.length : Nat) : Int) else ((lo.length : Nat) : Int))), (44, I x_137), (65, V (.string (bs ((gi l_ (IntKind.i64.wrap (x_137 + 1))).Text)))), (66, V (.slice a2 lo.length c2)), (67, I x_137), (70, V (.slice a3 hi.length c3)), (71, I x_137), (68, V (.pointer (some A145))), (69, I (gi lo x_137)), (72, V (.pointer (some A148))), (73, I (gi hi x_137)), (74, V (.tuple #[.int .i64 r154.1, .int .i64 r154.2]))], [(14, (60, [I ((gi l_ (IntKind.i64.wrap (((l_.length : Nat) : Int) - 1))).Line), I ((gi l_ (IntKind.i64.wrap (((l_.length : Nat) : Int) - 1))).At), V (.string (bs ((gi l_ (IntKind.i64.wrap (((l_.length : Nat) : Int) - 1))).Text)))])), (17, (60, [I ((gi l_ (IntKind.i64.wrap (x_137 + 1))).Line), I ((gi l_ (IntKind.i64.wrap (x_137 + 1))).At), V (.string (bs ((gi l_ (IntKind.i64.wrap (x_137 + 1))).Text)))]))]⟩) (by kernel_rfl)
              refine andH (Hold.of hS (bks := [14, 17]) (by kernel_rfl) hD) ?_
              intro hH
              refine take T [11, 12, 13, 14, 15] [14, 17] [0, 2, 3, 4, 13, 14, 16, 17, 18, 43, 44] hS (by kernel_rfl) (by kernel_rfl) (by kernel_rfl) hH (listed' := #[true, true, true, true, true, true, true, true, true, true, true, true, true, true, true, true]) (fuel := 0) (sy' := ⟨[(0, V (.slice a1 l_.length c1)), (2, V (.slice a2 lo.length c2)), (3, V (.slice a3 hi.length c3)), (4, I end_), (13, Pt 14 0), (14, V (.slice a134 out_133.length c135)), (16, Pt 17 0), (17, I r154.1), (18, I r154.2), (43, I (if ((hi.length : Nat) : Int) < ((lo.length : Nat) : Int) then ((hi.length : Nat) : Int) else ((lo.length : Nat) : Int))), (44, I x_137)], [(14, (60, [I ((gi l_ (IntKind.i64.wrap (((l_.length : Nat) : Int) - 1))).Line), I ((gi l_ (IntKind.i64.wrap (((l_.length : Nat) : Int) - 1))).At), V (.string (bs ((gi l_ (IntKind.i64.wrap (((l_.length : Nat) : Int) - 1))).Text)))])), (17, (60, [I ((gi l_ (IntKind.i64.wrap (x_137 + 1))).Line), I ((gi l_ (IntKind.i64.wrap (x_137 + 1))).At), V (.string (bs ((gi l_ (IntKind.i64.wrap (x_137 + 1))).Text)))]))]⟩) (by kernel_rfl) (by rfl) ?_
              intro a hS
              refine drawnDone (by kernel_rfl) ?_
              clear hD hH
              replace hS := hS.sel [0, 2, 3, 4, 13, 14, 16, 17, 18, 43, 44] [14, 17] (sy' := ⟨[(0, V (.slice a1 l_.length c1)), (2, V (.slice a2 lo.length c2)), (3, V (.slice a3 hi.length c3)), (4, I end_), (13, Pt 14 0), (14, V (.slice a134 out_133.length c135)), (16, Pt 17 0), (17, I r154.1), (18, I r154.2), (43, I (if ((hi.length : Nat) : Int) < ((lo.length : Nat) : Int) then ((hi.length : Nat) : Int) else ((lo.length : Nat) : Int))), (44, I x_137)], [(14, (60, [I ((gi l_ (IntKind.i64.wrap (((l_.length : Nat) : Int) - 1))).Line), I ((gi l_ (IntKind.i64.wrap (((l_.length : Nat) : Int) - 1))).At), V (.string (bs ((gi l_ (IntKind.i64.wrap (((l_.length : Nat) : Int) - 1))).Text)))])), (17, (60, [I ((gi l_ (IntKind.i64.wrap (x_137 + 1))).Line), I ((gi l_ (IntKind.i64.wrap (x_137 + 1))).At), V (.string (bs ((gi l_ (IntKind.i64.wrap (x_137 + 1))).Text)))]))]⟩) (by kernel_rfl)
              refine wseq ?_
              refine regP T hS (sp := []) (ks := [0, 2, 3, 4, 13, 14, 16, 17, 18, 43, 44, 78]) (bs := [14, 17]) (sy' := ⟨[(0, V (.slice a1 l_.length c1)), (2, V (.slice a2 lo.length c2)), (3, V (.slice a3 hi.length c3)), (4, I end_), (13, Pt 14 0), (14, V (.slice a134 out_133.length c135)), (16, Pt 17 0), (17, I r154.1), (18, I r154.2), (43, I (if ((hi.length : Nat) : Int) < ((lo.length : Nat) : Int) then ((hi.length : Nat) : Int) else ((lo.length : Nat) : Int))), (44, I x_137), (78, B (r154.2 != 0))], [(14, (60, [I ((gi l_ (IntKind.i64.wrap (((l_.length : Nat) : Int) - 1))).Line), I ((gi l_ (IntKind.i64.wrap (((l_.length : Nat) : Int) - 1))).At), V (.string (bs ((gi l_ (IntKind.i64.wrap (((l_.length : Nat) : Int) - 1))).Text)))])), (17, (60, [I ((gi l_ (IntKind.i64.wrap (x_137 + 1))).Line), I ((gi l_ (IntKind.i64.wrap (x_137 + 1))).At), V (.string (bs ((gi l_ (IntKind.i64.wrap (x_137 + 1))).Text)))]))]⟩) (by kernel_rfl) ?_
              intro a hS
              refine wcond hS (b := (r154.2 != 0)) (by kernel_rfl) (fun hb => ?_) (fun hb => ?_)
              · replace hm := hm.1 hb
                replace hS := hS.sel [16, 18] [17] (sy' := ⟨[(16, Pt 17 0), (18, I r154.2)], [(17, (60, [I ((gi l_ (IntKind.i64.wrap (x_137 + 1))).Line), I ((gi l_ (IntKind.i64.wrap (x_137 + 1))).At), V (.string (bs ((gi l_ (IntKind.i64.wrap (x_137 + 1))).Text)))]))]⟩) (by kernel_rfl)
                refine drawnSX [17] mixed hS ?_
                intro w155 χ156 hS hE hD hH
                replace hO := hO.mv hE rfl rfl
                clear hE
                refine take T [0, 2, 3, 1, 4, 5] [17] [10, 11, 12] hS (by kernel_rfl) (by kernel_rfl) (by kernel_rfl) hH (listed' := #[true, true, true, true, true, true]) (fuel := 0) (sy' := ⟨[(10, V (.slice none 0 0)), (11, I ((gi l_ (IntKind.i64.wrap (x_137 + 1))).At)), (12, I r154.2)], [(17, (60, [I ((gi l_ (IntKind.i64.wrap (x_137 + 1))).Line), I ((gi l_ (IntKind.i64.wrap (x_137 + 1))).At), V (.string (bs ((gi l_ (IntKind.i64.wrap (x_137 + 1))).Text)))]))]⟩) (by kernel_rfl) (by rfl) ?_
                intro a hS
                refine drawnDone (by kernel_rfl) ?_
                clear hD hH
                replace hS := hS.sel [10, 11, 12] [] (sy' := ⟨[(10, V (.slice none 0 0)), (11, I ((gi l_ (IntKind.i64.wrap (x_137 + 1))).At)), (12, I r154.2)], []⟩) (by kernel_rfl)
                refine wret ?_
                exact fin T hS hO (fun c => c) rfl (r := [.slice none 0 0, .int .i64 ((gi l_ (IntKind.i64.wrap (x_137 + 1))).At), .int .i64 r154.2]) (by kernel_rfl) (fun χ' hM hC => ⟨([], (gi l_ (IntKind.i64.wrap (x_137 + 1))).At, r154.2), hm, none, 0, rfl, RS.empty _ _ _⟩)
              · replace hm := hm.2 hb
                refine wskip ?_
                refine region ?_
                refine opsP T hS 2 (sp := []) (ks := [0, 2, 3, 4, 13, 14, 43, 44, 82, 83]) (bs := [14]) (sy' := ⟨[(0, V (.slice a1 l_.length c1)), (2, V (.slice a2 lo.length c2)), (3, V (.slice a3 hi.length c3)), (4, I end_), (13, Pt 14 0), (14, V (.slice a134 out_133.length c135)), (43, I (if ((hi.length : Nat) : Int) < ((lo.length : Nat) : Int) then ((hi.length : Nat) : Int) else ((lo.length : Nat) : Int))), (44, I x_137), (82, V (.slice a134 out_133.length c135)), (83, I r154.1)], [(14, (60, [I ((gi l_ (IntKind.i64.wrap (((l_.length : Nat) : Int) - 1))).Line), I ((gi l_ (IntKind.i64.wrap (((l_.length : Nat) : Int) - 1))).At), V (.string (bs ((gi l_ (IntKind.i64.wrap (((l_.length : Nat) : Int) - 1))).Text)))]))]⟩) (by kernel_rfl) ?_
                intro a hS
                refine op1 (lit (E := 3) (col := 0) (T := tI) (vals := [.int .i64 r154.1]) (ys := [r154.1]) T hS (by kernel_rfl) (by kernel_rfl) (by kernel_rfl) (by kernel_rfl) (by exact ⟨rfl, trivial⟩) rfl (by kernel_rfl) (by kernel_rfl) (by kernel_rfl) (by kernel_rfl) ?_)
                intro b157 a w158 χ159 hE h160 hN hS
                clear hN
                replace hO := hO.mv hE rfl rfl
                replace h130 := h130.mv hE rfl
                replace h131 := h131.mv hE rfl
                replace h132 := h132.mv hE rfl
                replace h136 := h136.mv hE rfl rfl
                clear hE
                replace h160 := h160.rs0
                obtain ⟨hq, hm⟩ := hm
                obtain ⟨news, hN⟩ := h160.src
                refine op1 (append (E := 3) (T := tI) (col := 1011) (xs := out_133) T hS (by kernel_rfl) (by kernel_rfl) (by kernel_rfl) (by kernel_rfl) h136 hN (by kernel_rfl) (by kernel_rfl) (by kernel_rfl) (by kernel_rfl) hq ?_)
                intro a164 c165 a w161 χ162 hE h163 hS
                clear hq hN
                clear h136
                replace hO := hO.mv hE rfl rfl
                replace h130 := h130.mv hE rfl
                replace h131 := h131.mv hE rfl
                replace h132 := h132.mv hE rfl
                replace h160 := h160.mv hE rfl
                clear hE
                refine endP T hS (sp := []) (ks := [0, 2, 3, 4, 13, 14, 43, 44]) (bs := [14]) (sy' := ⟨[(0, V (.slice a1 l_.length c1)), (2, V (.slice a2 lo.length c2)), (3, V (.slice a3 hi.length c3)), (4, I end_), (13, Pt 14 0), (14, V (.slice a164 (out_133 ++ [r154.1]).length c165)), (43, I (if ((hi.length : Nat) : Int) < ((lo.length : Nat) : Int) then ((hi.length : Nat) : Int) else ((lo.length : Nat) : Int))), (44, I x_137)], [(14, (60, [I ((gi l_ (IntKind.i64.wrap (((l_.length : Nat) : Int) - 1))).Line), I ((gi l_ (IntKind.i64.wrap (((l_.length : Nat) : Int) - 1))).At), V (.string (bs ((gi l_ (IntKind.i64.wrap (((l_.length : Nat) : Int) - 1))).Text)))]))]⟩) (by kernel_rfl) ?_
                intro a hS
                refine region (endP T hS (sp := []) (ks := [0, 2, 3, 4, 13, 14, 43, 44]) (bs := [14]) (sy' := ⟨[(0, V (.slice a1 l_.length c1)), (2, V (.slice a2 lo.length c2)), (3, V (.slice a3 hi.length c3)), (4, I end_), (13, Pt 14 0), (14, V (.slice a164 (out_133 ++ [r154.1]).length c165)), (43, I (if ((hi.length : Nat) : Int) < ((lo.length : Nat) : Int) then ((hi.length : Nat) : Int) else ((lo.length : Nat) : Int))), (44, I (IntKind.i64.wrap (x_137 + 1)))], [(14, (60, [I ((gi l_ (IntKind.i64.wrap (((l_.length : Nat) : Int) - 1))).Line), I ((gi l_ (IntKind.i64.wrap (((l_.length : Nat) : Int) - 1))).At), V (.string (bs ((gi l_ (IntKind.i64.wrap (((l_.length : Nat) : Int) - 1))).Text)))]))]⟩) (by kernel_rfl) ?_)
                intro a hS
                exact ⟨⟨out_133 ++ [r154.1], IntKind.i64.wrap (x_137 + 1)⟩, ⟨ρ, _, a164, c165, hm.1, hS.sel [0, 2, 3, 4, 13, 14, 43, 44] [14] (by kernel_rfl), hO, h130, h131, h132, h163⟩, hm.2⟩
          · replace hm := hm.2 hb
            refine wexit (by rfl) ?_
            exact ⟨ρ, _, out_133, a134, c135, hm, hS.sel [0, 4, 14] [] (by kernel_rfl), hO, h130, h136⟩
      · rintro a w171 ⟨ρ, χ170, out_117, a118, c119, hm, hS, hO, h116, h120⟩
        unfold VC21_J1 at hm
        refine wseq ?_
        refine regP T hS (sp := []) (ks := [0, 4, 14, 92]) (bs := []) (sy' := ⟨[(0, V (.slice a1 l_.length c1)), (4, I end_), (14, V (.slice a118 out_117.length c119)), (92, B (decide (((l_.length : Nat) : Int) > (IntKind.i64.wrap (((out_117.length : Nat) : Int) + 1)))))], []⟩) (by kernel_rfl) ?_
        intro a hS
        refine wcond hS (b := decide (((l_.length : Nat) : Int) > (IntKind.i64.wrap (((out_117.length : Nat) : Int) + 1)))) (by kernel_rfl) (fun hb => ?_) (fun hb => ?_)
        · replace hm := hm.1 hb
          refine drawnSX [] mixed hS ?_
          intro w121 χ122 hS hE hD hH
          replace hO := hO.mv hE rfl rfl
          replace h116 := h116.mv hE rfl
          replace h120 := h120.mv hE rfl rfl
          clear hE
          refine take T [0, 1, 7, 2, 3] [] [10, 93, 96] hS (by kernel_rfl) (by kernel_rfl) (by kernel_rfl) hH (listed' := #[true, true, true, true, false, false, false, true, false, false]) (fuel := 5) (sy' := ⟨[(10, V (.slice none 0 0)), (93, V (.slice a1 l_.length c1)), (96, I (IntKind.i64.wrap (((out_117.length : Nat) : Int) + 1)))], []⟩) (by kernel_rfl) (by rfl) ?_
          intro a hS
          obtain ⟨hq, hm⟩ := hm
          refine dindex (e := 60) (k := .i64) T 4 hS (by kernel_rfl) (by kernel_rfl) (by kernel_rfl) (by rfl) (by kernel_rfl) hH (by kernel_rfl) (by kernel_rfl) h116 (by kernel_rfl) (by kernel_rfl) hq.1 hq.2 ?_
          intro A123 a h124 hS
          clear hq
          have h124b := h124.here
          refine dfieldA (off := 1) (fsz := 1) (ft := 3) (TF := tI) (y := (gi l_ (IntKind.i64.wrap (((out_117.length : Nat) : Int) + 1))).At) 5 T hS (by kernel_rfl) (by kernel_rfl) (by kernel_rfl) (by rfl) (by kernel_rfl) hH (by kernel_rfl) h124 (by kernel_rfl) (by kernel_rfl) (by kernel_rfl) (fun cs h => Token_Token_f1 h) ?_
          intro A125 a h126 hbl hS
          have h126b := h124b
          rw [← hbl] at h126b
          clear hbl
          refine dload1 T 6 hS (by kernel_rfl) (by kernel_rfl) (by kernel_rfl) (by rfl) (by kernel_rfl) hH (by kernel_rfl) h126 h126b rfl (by kernel_rfl) ?_
          intro v127 a hv hS
          cases hv
          refine take T [8, 9] [] [10, 11, 12] hS (by kernel_rfl) (by kernel_rfl) (by kernel_rfl) hH (listed' := #[true, true, true, true, true, true, true, true, true, true]) (fuel := 0) (sy' := ⟨[(10, V (.slice none 0 0)), (11, I ((gi l_ (IntKind.i64.wrap (((out_117.length : Nat) : Int) + 1))).At)), (12, I 6)], []⟩) (by kernel_rfl) (by rfl) ?_
          intro a hS
          refine drawnDone (by kernel_rfl) ?_
          clear hD hH
          replace hS := hS.sel [10, 11, 12] [] (sy' := ⟨[(10, V (.slice none 0 0)), (11, I ((gi l_ (IntKind.i64.wrap (((out_117.length : Nat) : Int) + 1))).At)), (12, I 6)], []⟩) (by kernel_rfl)
          refine wret ?_
          exact fin T hS hO (fun c => c) rfl (r := [.slice none 0 0, .int .i64 ((gi l_ (IntKind.i64.wrap (((out_117.length : Nat) : Int) + 1))).At), .int .i64 6]) (by kernel_rfl) (fun χ' hM hC => ⟨([], (gi l_ (IntKind.i64.wrap (((out_117.length : Nat) : Int) + 1))).At, 6), hm, none, 0, rfl, RS.empty _ _ _⟩)
        · replace hm := hm.2 hb
          refine wskip ?_
          refine regP T hS (sp := []) (ks := [10, 11, 12]) (bs := []) (sy' := ⟨[(10, V (.slice a118 out_117.length c119)), (11, I end_), (12, I 0)], []⟩) (by kernel_rfl) ?_
          intro a hS
          refine wret ?_
          obtain ⟨χ128, hE, hF⟩ := h120.freeze (by decide)
          replace hS := hS.ev hE (xone_box (by kernel_rfl))
          replace hO := hO.mv hE rfl rfl
          have h129 := hF; clear hE hF
          exact fin T hS hO (fun c => c) rfl (r := [.slice a118 out_117.length c119, .int .i64 end_, .int .i64 0]) (by kernel_rfl) (fun χ' hM hC => ⟨(out_117, end_, 0), hm, a118, c119, rfl, h129.m0 hM⟩)
theorem C21 (k38 : S38) (v : ∀ (l_ : List Token_Token) (word : List UInt8) (lo : List Int) (hi : List Int) (end_ : Int), preNT l_ word lo hi end_ → VC21 l_ word lo hi end_ (fun r => r = objtext_Numbers l_ word lo hi end_)) : S21 := by
  intro w χ l_ word lo hi end_ a1 c1 a2 c2 a3 c3   hp h1 h2 h3
  refine (W21 k38 w χ l_ word lo hi end_ a1 c1 a2 c2 a3 c3   _ (v l_ word lo hi end_ hp) h1 h2 h3).mono ?_
  rintro _ _ _ _ ⟨r, rfl, h⟩
  exact h
def S22 : Prop := ∀ (w : World) (χ : Nat → Nat) (l_ : List Ref05_Token) (word : List UInt8) (lo : List Int) (hi : List Int) (end_ : Int) (a1 : Option Addr) (c1 : Nat) (a2 : Option Addr) (c2 : Nat) (a3 : Option Addr) (c3 : Nat), preNR l_ word lo hi end_ → RS tRef05_Token w χ a1 l_ c1 → RS tI w χ a2 lo c2 → RS tI w χ a3 hi c3 → Ret Tryd.prog 22 #[.slice a1 l_.length c1, .string (bs word), .slice a2 lo.length c2, .slice a3 hi.length c3, .int .i64 end_] xnone w χ (fun w χ' v => ∃ (ra1 : Option Addr) (rc1 : Nat), v = .tuple #[.slice ra1 ((ref24_Numbers l_ word lo hi end_).1).length rc1, .int .i64 ((ref24_Numbers l_ word lo hi end_).2.1), .int .i64 ((ref24_Numbers l_ word lo hi end_).2.2)] ∧ RS tI w χ' ra1 ((ref24_Numbers l_ word lo hi end_).1) rc1)
theorem hb22 : hasBody Tryd.prog 22 = true := by kernel_rfl
/-- replevin/replevinref24.Numbers -/
theorem W22 (k39 : S39) (w0 : World) (χ0 : Nat → Nat) (l_ : List Ref05_Token) (word : List UInt8) (lo : List Int) (hi : List Int) (end_ : Int) (a1 : Option Addr) (c1 : Nat) (a2 : Option Addr) (c2 : Nat) (a3 : Option Addr) (c3 : Nat) (Q : (List Int) × Int × Int → Prop) (hm : VC22 l_ word lo hi end_ Q) (h1 : RS tRef05_Token w0 χ0 a1 l_ c1) (h2 : RS tI w0 χ0 a2 lo c2) (h3 : RS tI w0 χ0 a3 hi c3) :
    Ret Tryd.prog 22 #[.slice a1 l_.length c1, .string (bs word), .slice a2 lo.length c2, .slice a3 hi.length c3, .int .i64 end_] xnone w0 χ0 (fun w χ' v => ∃ r, Q r ∧ ∃ (ra1 : Option Addr) (rc1 : Nat), v = .tuple #[.slice ra1 r.1.length rc1, .int .i64 r.2.1, .int .i64 r.2.2] ∧ RS tI w χ' ra1 r.1 rc1) := by
  unfold VC22 at hm
  replace hm := hm (h1.sm (by kernel_rfl))
  replace hm := hm (h2.sm (by kernel_rfl))
  replace hm := hm (h3.sm (by kernel_rfl))
  refine enter Tryd.func22 rfl (vals := [.slice a1 l_.length c1, .string (bs word), .slice a2 lo.length c2, .slice a3 hi.length c3, .int .i64 end_]) (by kernel_rfl) ?_
  intro ρ a hS hO hM
  replace h1 := h1.m0 hM
  replace h2 := h2.m0 hM
  replace h3 := h3.m0 hM
  clear hM
  refine regP T hS (sp := []) (ks := [0, 1, 2, 3, 4]) (bs := []) (sy' := ⟨[(0, V (.slice a1 l_.length c1)), (1, V (.string (bs word))), (2, V (.slice a2 lo.length c2)), (3, V (.slice a3 hi.length c3)), (4, I end_)], []⟩) (by kernel_rfl) ?_
  intro a hS
  refine wseq ?_
  refine regP T hS (sp := []) (ks := [0, 1, 2, 3, 4, 19]) (bs := []) (sy' := ⟨[(0, V (.slice a1 l_.length c1)), (1, V (.string (bs word))), (2, V (.slice a2 lo.length c2)), (3, V (.slice a3 hi.length c3)), (4, I end_), (19, B (((l_.length : Nat) : Int) == 0))], []⟩) (by kernel_rfl) ?_
  intro a hS
  refine wcond hS (b := (((l_.length : Nat) : Int) == 0)) (by kernel_rfl) (fun hb => ?_) (fun hb => ?_)
  · replace hm := hm.1 hb
    refine regP T hS (sp := []) (ks := [10, 11, 12]) (bs := []) (sy' := ⟨[(10, V (.slice none 0 0)), (11, I end_), (12, I 4)], []⟩) (by kernel_rfl) ?_
    intro a hS
    refine wret ?_
    exact fin T hS hO (fun c => c) rfl (r := [.slice none 0 0, .int .i64 end_, .int .i64 4]) (by kernel_rfl) (fun χ' hM hC => ⟨([], end_, 4), hm, none, 0, rfl, RS.empty _ _ _⟩)
  · replace hm := hm.2 hb
    refine wskip ?_
    refine wseq ?_
    refine regO ?_
    refine opsP T hS 1 (sp := []) (ks := [0, 1, 2, 3, 4, 21]) (bs := []) (sy' := ⟨[(0, V (.slice a1 l_.length c1)), (1, V (.string (bs word))), (2, V (.slice a2 lo.length c2)), (3, V (.slice a3 hi.length c3)), (4, I end_), (21, V (.slice a1 l_.length c1))], []⟩) (by kernel_rfl) ?_
    intro a hS
    obtain ⟨hq, hm⟩ := hm
    refine op1 (index (e := 69) (k := .i64) T hS (by kernel_rfl) (by kernel_rfl) (by kernel_rfl) (by kernel_rfl) h1 (by kernel_rfl) (by kernel_rfl) hq.1 hq.2 ?_)
    intro A101 a h102 hS
    clear hq
    refine op1 (fieldA (off := 2) (fsz := 1) (ft := 9) (TF := tStr) (y := (gi l_ 0).Text) T hS (by kernel_rfl) (by kernel_rfl) (by kernel_rfl) h102 (by kernel_rfl) (by kernel_rfl) (by kernel_rfl) (fun cs h => Ref05_Token_f2 h) ?_)
    intro A103 a h104 hS
    refine op1 (load1 T hS (by kernel_rfl) (by kernel_rfl) (by kernel_rfl) h104 rfl (by kernel_rfl) ?_)
    intro v105 a hv hS
    cases hv
    refine endP T hS (sp := []) (ks := [0, 2, 3, 4, 26]) (bs := []) (sy' := ⟨[(0, V (.slice a1 l_.length c1)), (2, V (.slice a2 lo.length c2)), (3, V (.slice a3 hi.length c3)), (4, I end_), (26, B (!(((gi l_ 0).Text) == word)))], []⟩) (by kernel_rfl) ?_
    intro a hS
    refine wcond hS (b := (!(((gi l_ 0).Text) == word))) (by kernel_rfl) (fun hb => ?_) (fun hb => ?_)
    · replace hm := hm.1 hb
      refine drawnSX [] mixed hS ?_
      intro w106 χ107 hS hE hD hH
      replace hO := hO.mv hE rfl rfl
      replace h1 := h1.mv hE rfl
      clear hE
      refine take T [0, 4] [] [10, 27] hS (by kernel_rfl) (by kernel_rfl) (by kernel_rfl) hH (listed' := #[true, false, false, false, true, false, false]) (fuel := 5) (sy' := ⟨[(10, V (.slice none 0 0)), (27, V (.slice a1 l_.length c1))], []⟩) (by kernel_rfl) (by rfl) ?_
      intro a hS
      obtain ⟨hq, hm⟩ := hm
      refine dindex (e := 69) (k := .i64) T 1 hS (by kernel_rfl) (by kernel_rfl) (by kernel_rfl) (by rfl) (by kernel_rfl) hH (by kernel_rfl) (by kernel_rfl) h1 (by kernel_rfl) (by kernel_rfl) hq.1 hq.2 ?_
      intro A108 a h109 hS
      clear hq
      have h109b := h109.here
      refine dfieldA (off := 1) (fsz := 1) (ft := 3) (TF := tI) (y := (gi l_ 0).At) 2 T hS (by kernel_rfl) (by kernel_rfl) (by kernel_rfl) (by rfl) (by kernel_rfl) hH (by kernel_rfl) h109 (by kernel_rfl) (by kernel_rfl) (by kernel_rfl) (fun cs h => Ref05_Token_f1 h) ?_
      intro A110 a h111 hbl hS
      have h111b := h109b
      rw [← hbl] at h111b
      clear hbl
      refine dload1 T 3 hS (by kernel_rfl) (by kernel_rfl) (by kernel_rfl) (by rfl) (by kernel_rfl) hH (by kernel_rfl) h111 h111b rfl (by kernel_rfl) ?_
      intro v112 a hv hS
      cases hv
      refine take T [5, 6] [] [10, 11, 12] hS (by kernel_rfl) (by kernel_rfl) (by kernel_rfl) hH (listed' := #[true, true, true, true, true, true, true]) (fuel := 0) (sy' := ⟨[(10, V (.slice none 0 0)), (11, I ((gi l_ 0).At)), (12, I 8)], []⟩) (by kernel_rfl) (by rfl) ?_
      intro a hS
      refine drawnDone (by kernel_rfl) ?_
      clear hD hH
      replace hS := hS.sel [10, 11, 12] [] (sy' := ⟨[(10, V (.slice none 0 0)), (11, I ((gi l_ 0).At)), (12, I 8)], []⟩) (by kernel_rfl)
      refine wret ?_
      exact fin T hS hO (fun c => c) rfl (r := [.slice none 0 0, .int .i64 ((gi l_ 0).At), .int .i64 8]) (by kernel_rfl) (fun χ' hM hC => ⟨([], (gi l_ 0).At, 8), hm, none, 0, rfl, RS.empty _ _ _⟩)
    · replace hm := hm.2 hb
      refine wskip ?_
      refine regP T hS (sp := []) (ks := [0, 2, 3, 4, 13]) (bs := []) (sy' := ⟨[(0, V (.slice a1 l_.length c1)), (2, V (.slice a2 lo.length c2)), (3, V (.slice a3 hi.length c3)), (4, I end_), (13, V (.slice none 0 0))], []⟩) (by kernel_rfl) ?_
      intro a hS
      refine wcut (fun a w => ∃ (ρ : Nat → Nat) (χ : Nat → Nat) (out_114 : List Int) (a115 : Option Addr) (c116 : Nat), VC22_J1 l_ end_ Q out_114 ∧ St Tryd.f22.ntmps ⟨[(0, V (.slice a1 l_.length c1)), (4, I end_), (13, V (.slice a115 out_114.length c116))], []⟩ ρ a w χ ∧ Old w0 χ0 w χ ∧ RS tRef05_Token w χ a1 l_ c1 ∧ OS tI 3 w χ 1011 a115 out_114 c116) ?_ ?_
      · refine regP T hS (sp := []) (ks := [0, 2, 3, 4, 13, 14]) (bs := []) (sy' := ⟨[(0, V (.slice a1 l_.length c1)), (2, V (.slice a2 lo.length c2)), (3, V (.slice a3 hi.length c3)), (4, I end_), (13, V (.slice none 0 0)), (14, I 0)], []⟩) (by kernel_rfl) ?_
        intro a hS
        refine wblock ?_
        obtain ⟨I1, μ1, hm0, hm⟩ := hm
        refine wloop (σ := (List Int) × Int) (fun s a w => ∃ (ρ : Nat → Nat) (χ : Nat → Nat) (a131 : Option Addr) (c132 : Nat), I1 s.1 s.2 ∧ St Tryd.f22.ntmps ⟨[(0, V (.slice a1 l_.length c1)), (2, V (.slice a2 lo.length c2)), (3, V (.slice a3 hi.length c3)), (4, I end_), (13, V (.slice a131 s.1.length c132)), (14, I s.2)], []⟩ ρ a w χ ∧ Old w0 χ0 w χ ∧ RS tRef05_Token w χ a1 l_ c1 ∧ RS tI w χ a2 lo c2 ∧ RS tI w χ a3 hi c3 ∧ OS tI 3 w χ 1011 a131 s.1 c132) (fun s => μ1 s.1 s.2) (⟨[], 0⟩) ?_ ?_
        · exact ⟨ρ, _, none, 0, hm0, hS.sel [0, 2, 3, 4, 13, 14] [] (by kernel_rfl), hO, h1, h2, h3, (OS.nil _ _ _ _ _)⟩
        · rintro ⟨out_130, i_134⟩ a w181 ⟨ρ, χ180, a131, c132, hI, hS, hO, h127, h128, h129, h133⟩
          replace hm := hm out_130 i_134 hI
          clear hI hm0
          refine wseq ?_
          refine regP T hS (sp := [35]) (ks := [0, 2, 3, 4, 13, 14, 40]) (bs := []) (sy' := ⟨[(0, V (.slice a1 l_.length c1)), (2, V (.slice a2 lo.length c2)), (3, V (.slice a3 hi.length c3)), (4, I end_), (13, V (.slice a131 out_130.length c132)), (14, I i_134), (40, B ((decide (i_134 < ((lo.length : Nat) : Int))) && (decide (i_134 < ((hi.length : Nat) : Int)))))], []⟩) (by kernel_rfl) ?_
          intro a hS
          refine wcond hS (b := ((decide (i_134 < ((lo.length : Nat) : Int))) && (decide (i_134 < ((hi.length : Nat) : Int))))) (by kernel_rfl) (fun hb => ?_) (fun hb => ?_)
          · replace hm := hm.1 hb
            refine wskip ?_
            refine wseq ?_
            refine wblock ?_
            refine wseq ?_
            refine regP T hS (sp := []) (ks := [0, 2, 3, 4, 13, 14, 47]) (bs := []) (sy' := ⟨[(0, V (.slice a1 l_.length c1)), (2, V (.slice a2 lo.length c2)), (3, V (.slice a3 hi.length c3)), (4, I end_), (13, V (.slice a131 out_130.length c132)), (14, I i_134), (47, B ((IntKind.i64.wrap (i_134 + 1)) == ((l_.length : Nat) : Int)))], []⟩) (by kernel_rfl) ?_
            intro a hS
            refine wcond hS (b := ((IntKind.i64.wrap (i_134 + 1)) == ((l_.length : Nat) : Int))) (by kernel_rfl) (fun hb => ?_) (fun hb => ?_)
            · replace hm := hm.1 hb
              refine drawnSX [] mixed hS ?_
              intro w135 χ136 hS hE hD hH
              replace hO := hO.mv hE rfl rfl
              replace h127 := h127.mv hE rfl
              clear hE
              refine take T [0, 1, 5, 6, 12] [] [10, 48, 49, 53, 54] hS (by kernel_rfl) (by kernel_rfl) (by kernel_rfl) hH (listed' := #[true, true, false, false, false, true, true, false, false, false, false, false, true, false, false]) (fuel := 10) (sy' := ⟨[(10, V (.slice none 0 0)), (48, V (.slice a1 l_.length c1)), (49, I i_134), (53, V (.slice a1 l_.length c1)), (54, I i_134)], []⟩) (by kernel_rfl) (by rfl) ?_
              intro a hS
              obtain ⟨hq, hm⟩ := hm
              refine dindex (e := 69) (k := .i64) T 2 hS (by kernel_rfl) (by kernel_rfl) (by kernel_rfl) (by rfl) (by kernel_rfl) hH (by kernel_rfl) (by kernel_rfl) h127 (by kernel_rfl) (by kernel_rfl) hq.1 hq.2 ?_
              intro A137 a h138 hS
              clear hq
              have h138b := h138.here
              refine dfieldA (off := 1) (fsz := 1) (ft := 3) (TF := tI) (y := (gi l_ i_134).At) 3 T hS (by kernel_rfl) (by kernel_rfl) (by kernel_rfl) (by rfl) (by kernel_rfl) hH (by kernel_rfl) h138 (by kernel_rfl) (by kernel_rfl) (by kernel_rfl) (fun cs h => Ref05_Token_f1 h) ?_
              intro A139 a h140 hbl hS
              have h140b := h138b
              rw [← hbl] at h140b
              clear hbl
              refine dload1 T 4 hS (by kernel_rfl) (by kernel_rfl) (by kernel_rfl) (by rfl) (by kernel_rfl) hH (by kernel_rfl) h140 h140b rfl (by kernel_rfl) ?_
              intro v141 a hv hS
              cases hv
              obtain ⟨hq, hm⟩ := hm
              refine dindex (e := 69) (k := .i64) T 7 hS (by kernel_rfl) (by kernel_rfl) (by kernel_rfl) (by rfl) (by kernel_rfl) hH (by kernel_rfl) (by kernel_rfl) h127 (by kernel_rfl) (by kernel_rfl) hq.1 hq.2 ?_
              intro A142 a h143 hS
              clear hq
              have h143b := h143.here
              refine dfieldA (off := 2) (fsz := 1) (ft := 9) (TF := tStr) (y := (gi l_ i_134).Text) 8 T hS (by kernel_rfl) (by kernel_rfl) (by kernel_rfl) (by rfl) (by kernel_rfl) hH (by kernel_rfl) h143 (by kernel_rfl) (by kernel_rfl) (by kernel_rfl) (fun cs h => Ref05_Token_f2 h) ?_
              intro A144 a h145 hbl hS
              have h145b := h143b
              rw [← hbl] at h145b
              clear hbl
              refine dload1 T 9 hS (by kernel_rfl) (by kernel_rfl) (by kernel_rfl) (by rfl) (by kernel_rfl) hH (by kernel_rfl) h145 h145b rfl (by kernel_rfl) ?_
              intro v146 a hv hS
              cases hv
              refine take T [10, 11, 13, 14] [] [10, 11, 12] hS (by kernel_rfl) (by kernel_rfl) (by kernel_rfl) hH (listed' := #[true, true, true, true, true, true, true, true, true, true, true, true, true, true, true]) (fuel := 0) (sy' := ⟨[(10, V (.slice none 0 0)), (11, I (IntKind.i64.wrap (((gi l_ i_134).At) + ((((gi l_ i_134).Text).length : Nat) : Int)))), (12, I 4)], []⟩) (by kernel_rfl) (by rfl) ?_
              intro a hS
              refine drawnDone (by kernel_rfl) ?_
              clear hD hH
              replace hS := hS.sel [10, 11, 12] [] (sy' := ⟨[(10, V (.slice none 0 0)), (11, I (IntKind.i64.wrap (((gi l_ i_134).At) + ((((gi l_ i_134).Text).length : Nat) : Int)))), (12, I 4)], []⟩) (by kernel_rfl)
              refine wret ?_
              exact fin T hS hO (fun c => c) rfl (r := [.slice none 0 0, .int .i64 (IntKind.i64.wrap (((gi l_ i_134).At) + ((((gi l_ i_134).Text).length : Nat) : Int))), .int .i64 4]) (by kernel_rfl) (fun χ' hM hC => ⟨([], IntKind.i64.wrap (((gi l_ i_134).At) + ((((gi l_ i_134).Text).length : Nat) : Int)), 4), hm, none, 0, rfl, RS.empty _ _ _⟩)
            · replace hm := hm.2 hb
              refine wskip ?_
              refine drawnSX [] mixed hS ?_
              intro w147 χ148 hS hE hD hH
              replace hO := hO.mv hE rfl rfl
              replace h127 := h127.mv hE rfl
              replace h128 := h128.mv hE rfl
              replace h129 := h129.mv hE rfl
              replace h133 := h133.mv hE rfl rfl
              clear hE
              refine take T [0, 1, 6, 7, 10, 11, 2] [] [0, 2, 3, 4, 13, 14, 61, 63, 67, 68, 71, 72] hS (by kernel_rfl) (by kernel_rfl) (by kernel_rfl) hH (listed' := #[true, true, true, false, false, false, true, true, false, false, true, true, false, false, false, false, false, false, false, false]) (fuel := 13) (sy' := ⟨[(0, V (.slice a1 l_.length c1)), (2, V (.slice a2 lo.length c2)), (3, V (.slice a3 hi.length c3)), (4, I end_), (13, V (.slice a131 out_130.length c132)), (14, I i_134), (61, V (.slice a1 l_.length c1)), (63, I (IntKind.i64.wrap (i_134 + 1))), (67, V (.slice a2 lo.length c2)), (68, I i_134), (71, V (.slice a3 hi.length c3)), (72, I i_134)], []⟩) (by kernel_rfl) (by rfl) ?_
              intro a hS
              obtain ⟨hq, hm⟩ := hm
              refine dindex (e := 69) (k := .i64) T 3 hS (by kernel_rfl) (by kernel_rfl) (by kernel_rfl) (by rfl) (by kernel_rfl) hH (by kernel_rfl) (by kernel_rfl) h127 (by kernel_rfl) (by kernel_rfl) hq.1 hq.2 ?_
              intro A149 a h150 hS
              clear hq
              have h150b := h150.here
              refine dfieldA (off := 2) (fsz := 1) (ft := 9) (TF := tStr) (y := (gi l_ (IntKind.i64.wrap (i_134 + 1))).Text) 4 T hS (by kernel_rfl) (by kernel_rfl) (by kernel_rfl) (by rfl) (by kernel_rfl) hH (by kernel_rfl) h150 (by kernel_rfl) (by kernel_rfl) (by kernel_rfl) (fun cs h => Ref05_Token_f2 h) ?_
              intro A151 a h152 hbl hS
              have h152b := h150b
              rw [← hbl] at h152b
              clear hbl
              refine dload1 T 5 hS (by kernel_rfl) (by kernel_rfl) (by kernel_rfl) (by rfl) (by kernel_rfl) hH (by kernel_rfl) h152 h152b rfl (by kernel_rfl) ?_
              intro v153 a hv hS
              cases hv
              obtain ⟨hq, hm⟩ := hm
              refine dindex (e := 3) (k := .i64) T 8 hS (by kernel_rfl) (by kernel_rfl) (by kernel_rfl) (by rfl) (by kernel_rfl) hH (by kernel_rfl) (by kernel_rfl) h128 (by kernel_rfl) (by kernel_rfl) hq.1 hq.2 ?_
              intro A154 a h155 hS
              clear hq
              have h155b := h155.here
              refine dload1 T 9 hS (by kernel_rfl) (by kernel_rfl) (by kernel_rfl) (by rfl) (by kernel_rfl) hH (by kernel_rfl) h155 h155b rfl (by kernel_rfl) ?_
              intro v156 a hv hS
              cases hv
              obtain ⟨hq, hm⟩ := hm
              refine dindex (e := 3) (k := .i64) T 12 hS (by kernel_rfl) (by kernel_rfl) (by kernel_rfl) (by rfl) (by kernel_rfl) hH (by kernel_rfl) (by kernel_rfl) h129 (by kernel_rfl) (by kernel_rfl) hq.1 hq.2 ?_
              intro A157 a h158 hS
              clear hq
              have h158b := h158.here
              refine dload1 T 13 hS (by kernel_rfl) (by kernel_rfl) (by kernel_rfl) (by rfl) (by kernel_rfl) hH (by kernel_rfl) h158 h158b rfl (by kernel_rfl) ?_
              intro v159 a hv hS
              cases hv
              obtain ⟨hq, hm⟩ := hm
              refine only 14 (by kernel_rfl) (by rfl) (call hS (by kernel_rfl) (by kernel_rfl) hb39 (by kernel_rfl) (fun _ _ => rfl) (k39 _ _ ((gi l_ (IntKind.i64.wrap (i_134 + 1))).Text) (gi lo i_134) (gi hi i_134) hq) ?_)
              intro v160 a w161 χ162 hE hp hS
              clear hq
              replace hO := hO.mv hE rfl rfl
              replace hD := hD.ev hE rfl
              replace h127 := h127.mv hE rfl
              replace h128 := h128.mv hE rfl
              replace h129 := h129.mv hE rfl
              replace h133 := h133.mv hE rfl rfl
              replace h150 := h150.mv hE rfl
              replace h152 := h152.mv hE rfl
              replace h155 := h155.mv hE rfl
              replace h158 := h158.mv hE rfl
              clear hE
              obtain ⟨r163, hr⟩ : ∃ r, ref05_Number ((gi l_ (IntKind.i64.wrap (i_134 + 1))).Text) (gi lo i_134) (gi hi i_134) = r := ⟨_, rfl⟩
              replace hm := hm r163 hr
              rw [hr] at hp
              clear hr
              subst hp
              refine andH (Hold.of hS (bks := []) (by kernel_rfl) hD) ?_
              intro hH
              refine take T [15, 16, 17, 18, 19] [] [0, 2, 3, 4, 13, 14, 15, 16] hS (by kernel_rfl) (by kernel_rfl) (by kernel_rfl) hH (listed' := #[true, true, true, true, true, true, true, true, true, true, true, true, true, true, true, true, true, true, true, true]) (fuel := 0) (sy' := ⟨[(0, V (.slice a1 l_.length c1)), (2, V (.slice a2 lo.length c2)), (3, V (.slice a3 hi.length c3)), (4, I end_), (13, V (.slice a131 out_130.length c132)), (14, I i_134), (15, I r163.1), (16, I r163.2)], []⟩) (by kernel_rfl) (by rfl) ?_
              intro a hS
              refine drawnDone (by kernel_rfl) ?_
              clear hD hH
              replace hS := hS.sel [0, 2, 3, 4, 13, 14, 15, 16] [] (sy' := ⟨[(0, V (.slice a1 l_.length c1)), (2, V (.slice a2 lo.length c2)), (3, V (.slice a3 hi.length c3)), (4, I end_), (13, V (.slice a131 out_130.length c132)), (14, I i_134), (15, I r163.1), (16, I r163.2)], []⟩) (by kernel_rfl)
              refine wseq ?_
              refine regP T hS (sp := []) (ks := [0, 2, 3, 4, 13, 14, 15, 16, 79]) (bs := []) (sy' := ⟨[(0, V (.slice a1 l_.length c1)), (2, V (.slice a2 lo.length c2)), (3, V (.slice a3 hi.length c3)), (4, I end_), (13, V (.slice a131 out_130.length c132)), (14, I i_134), (15, I r163.1), (16, I r163.2), (79, B (r163.2 != 0))], []⟩) (by kernel_rfl) ?_
              intro a hS
              refine wcond hS (b := (r163.2 != 0)) (by kernel_rfl) (fun hb => ?_) (fun hb => ?_)
              · replace hm := hm.1 hb
                refine drawnSX [] mixed hS ?_
                intro w164 χ165 hS hE hD hH
                replace hO := hO.mv hE rfl rfl
                replace h127 := h127.mv hE rfl
                clear hE
                refine take T [0, 1, 6, 7, 2] [] [10, 80, 82, 86] hS (by kernel_rfl) (by kernel_rfl) (by kernel_rfl) hH (listed' := #[true, true, true, false, false, false, true, true, false, false]) (fuel := 5) (sy' := ⟨[(10, V (.slice none 0 0)), (80, V (.slice a1 l_.length c1)), (82, I (IntKind.i64.wrap (i_134 + 1))), (86, I r163.2)], []⟩) (by kernel_rfl) (by rfl) ?_
                intro a hS
                obtain ⟨hq, hm⟩ := hm
                refine dindex (e := 69) (k := .i64) T 3 hS (by kernel_rfl) (by kernel_rfl) (by kernel_rfl) (by rfl) (by kernel_rfl) hH (by kernel_rfl) (by kernel_rfl) h127 (by kernel_rfl) (by kernel_rfl) hq.1 hq.2 ?_
                intro A166 a h167 hS
                clear hq
                have h167b := h167.here
                refine dfieldA (off := 1) (fsz := 1) (ft := 3) (TF := tI) (y := (gi l_ (IntKind.i64.wrap (i_134 + 1))).At) 4 T hS (by kernel_rfl) (by kernel_rfl) (by kernel_rfl) (by rfl) (by kernel_rfl) hH (by kernel_rfl) h167 (by kernel_rfl) (by kernel_rfl) (by kernel_rfl) (fun cs h => Ref05_Token_f1 h) ?_
                intro A168 a h169 hbl hS
                have h169b := h167b
                rw [← hbl] at h169b
                clear hbl
                refine dload1 T 5 hS (by kernel_rfl) (by kernel_rfl) (by kernel_rfl) (by rfl) (by kernel_rfl) hH (by kernel_rfl) h169 h169b rfl (by kernel_rfl) ?_
                intro v170 a hv hS
                cases hv
                refine take T [8, 9] [] [10, 11, 12] hS (by kernel_rfl) (by kernel_rfl) (by kernel_rfl) hH (listed' := #[true, true, true, true, true, true, true, true, true, true]) (fuel := 0) (sy' := ⟨[(10, V (.slice none 0 0)), (11, I ((gi l_ (IntKind.i64.wrap (i_134 + 1))).At)), (12, I r163.2)], []⟩) (by kernel_rfl) (by rfl) ?_
                intro a hS
                refine drawnDone (by kernel_rfl) ?_
                clear hD hH
                replace hS := hS.sel [10, 11, 12] [] (sy' := ⟨[(10, V (.slice none 0 0)), (11, I ((gi l_ (IntKind.i64.wrap (i_134 + 1))).At)), (12, I r163.2)], []⟩) (by kernel_rfl)
                refine wret ?_
                exact fin T hS hO (fun c => c) rfl (r := [.slice none 0 0, .int .i64 ((gi l_ (IntKind.i64.wrap (i_134 + 1))).At), .int .i64 r163.2]) (by kernel_rfl) (fun χ' hM hC => ⟨([], (gi l_ (IntKind.i64.wrap (i_134 + 1))).At, r163.2), hm, none, 0, rfl, RS.empty _ _ _⟩)
              · replace hm := hm.2 hb
                refine wskip ?_
                refine region ?_
                refine opsP T hS 2 (sp := []) (ks := [0, 2, 3, 4, 13, 14, 87, 88]) (bs := []) (sy' := ⟨[(0, V (.slice a1 l_.length c1)), (2, V (.slice a2 lo.length c2)), (3, V (.slice a3 hi.length c3)), (4, I end_), (13, V (.slice a131 out_130.length c132)), (14, I i_134), (87, V (.slice a131 out_130.length c132)), (88, I r163.1)], []⟩) (by kernel_rfl) ?_
                intro a hS
                refine op1 (lit (E := 3) (col := 0) (T := tI) (vals := [.int .i64 r163.1]) (ys := [r163.1]) T hS (by kernel_rfl) (by kernel_rfl) (by kernel_rfl) (by kernel_rfl) (by exact ⟨rfl, trivial⟩) rfl (by kernel_rfl) (by kernel_rfl) (by kernel_rfl) (by kernel_rfl) ?_)
                intro b171 a w172 χ173 hE h174 hN hS
                clear hN
                replace hO := hO.mv hE rfl rfl
                replace h127 := h127.mv hE rfl
                replace h128 := h128.mv hE rfl
                replace h129 := h129.mv hE rfl
                replace h133 := h133.mv hE rfl rfl
                clear hE
                replace h174 := h174.rs0
                obtain ⟨hq, hm⟩ := hm
                obtain ⟨news, hN⟩ := h174.src
                refine op1 (append (E := 3) (T := tI) (col := 1011) (xs := out_130) T hS (by kernel_rfl) (by kernel_rfl) (by kernel_rfl) (by kernel_rfl) h133 hN (by kernel_rfl) (by kernel_rfl) (by kernel_rfl) (by kernel_rfl) hq ?_)
                intro a178 c179 a w175 χ176 hE h177 hS
                clear hq hN
                clear h133
                replace hO := hO.mv hE rfl rfl
                replace h127 := h127.mv hE rfl
                replace h128 := h128.mv hE rfl
                replace h129 := h129.mv hE rfl
                replace h174 := h174.mv hE rfl
                clear hE
                refine endP T hS (sp := []) (ks := [0, 2, 3, 4, 13, 14]) (bs := []) (sy' := ⟨[(0, V (.slice a1 l_.length c1)), (2, V (.slice a2 lo.length c2)), (3, V (.slice a3 hi.length c3)), (4, I end_), (13, V (.slice a178 (out_130 ++ [r163.1]).length c179)), (14, I i_134)], []⟩) (by kernel_rfl) ?_
                intro a hS
                refine region (endP T hS (sp := []) (ks := [0, 2, 3, 4, 13, 14]) (bs := []) (sy' := ⟨[(0, V (.slice a1 l_.length c1)), (2, V (.slice a2 lo.length c2)), (3, V (.slice a3 hi.length c3)), (4, I end_), (13, V (.slice a178 (out_130 ++ [r163.1]).length c179)), (14, I (IntKind.i64.wrap (i_134 + 1)))], []⟩) (by kernel_rfl) ?_)
                intro a hS
                exact ⟨⟨out_130 ++ [r163.1], IntKind.i64.wrap (i_134 + 1)⟩, ⟨ρ, _, a178, c179, hm.1, hS.sel [0, 2, 3, 4, 13, 14] [] (by kernel_rfl), hO, h127, h128, h129, h177⟩, hm.2⟩
          · replace hm := hm.2 hb
            refine wexit (by rfl) ?_
            exact ⟨ρ, _, out_130, a131, c132, hm, hS.sel [0, 4, 13] [] (by kernel_rfl), hO, h127, h133⟩
      · rintro a w183 ⟨ρ, χ182, out_114, a115, c116, hm, hS, hO, h113, h117⟩
        unfold VC22_J1 at hm
        refine wseq ?_
        refine regP T hS (sp := []) (ks := [0, 4, 13, 96]) (bs := []) (sy' := ⟨[(0, V (.slice a1 l_.length c1)), (4, I end_), (13, V (.slice a115 out_114.length c116)), (96, B (((l_.length : Nat) : Int) != (IntKind.i64.wrap (((out_114.length : Nat) : Int) + 1))))], []⟩) (by kernel_rfl) ?_
        intro a hS
        refine wcond hS (b := (((l_.length : Nat) : Int) != (IntKind.i64.wrap (((out_114.length : Nat) : Int) + 1)))) (by kernel_rfl) (fun hb => ?_) (fun hb => ?_)
        · replace hm := hm.1 hb
          refine drawnSX [] mixed hS ?_
          intro w118 χ119 hS hE hD hH
          replace hO := hO.mv hE rfl rfl
          replace h113 := h113.mv hE rfl
          replace h117 := h117.mv hE rfl rfl
          clear hE
          refine take T [0, 1, 7, 2, 3] [] [10, 97, 100] hS (by kernel_rfl) (by kernel_rfl) (by kernel_rfl) hH (listed' := #[true, true, true, true, false, false, false, true, false, false]) (fuel := 5) (sy' := ⟨[(10, V (.slice none 0 0)), (97, V (.slice a1 l_.length c1)), (100, I (IntKind.i64.wrap (((out_114.length : Nat) : Int) + 1)))], []⟩) (by kernel_rfl) (by rfl) ?_
          intro a hS
          obtain ⟨hq, hm⟩ := hm
          refine dindex (e := 69) (k := .i64) T 4 hS (by kernel_rfl) (by kernel_rfl) (by kernel_rfl) (by rfl) (by kernel_rfl) hH (by kernel_rfl) (by kernel_rfl) h113 (by kernel_rfl) (by kernel_rfl) hq.1 hq.2 ?_
          intro A120 a h121 hS
          clear hq
          have h121b := h121.here
          refine dfieldA (off := 1) (fsz := 1) (ft := 3) (TF := tI) (y := (gi l_ (IntKind.i64.wrap (((out_114.length : Nat) : Int) + 1))).At) 5 T hS (by kernel_rfl) (by kernel_rfl) (by kernel_rfl) (by rfl) (by kernel_rfl) hH (by kernel_rfl) h121 (by kernel_rfl) (by kernel_rfl) (by kernel_rfl) (fun cs h => Ref05_Token_f1 h) ?_
          intro A122 a h123 hbl hS
          have h123b := h121b
          rw [← hbl] at h123b
          clear hbl
          refine dload1 T 6 hS (by kernel_rfl) (by kernel_rfl) (by kernel_rfl) (by rfl) (by kernel_rfl) hH (by kernel_rfl) h123 h123b rfl (by kernel_rfl) ?_
          intro v124 a hv hS
          cases hv
          refine take T [8, 9] [] [10, 11, 12] hS (by kernel_rfl) (by kernel_rfl) (by kernel_rfl) hH (listed' := #[true, true, true, true, true, true, true, true, true, true]) (fuel := 0) (sy' := ⟨[(10, V (.slice none 0 0)), (11, I ((gi l_ (IntKind.i64.wrap (((out_114.length : Nat) : Int) + 1))).At)), (12, I 6)], []⟩) (by kernel_rfl) (by rfl) ?_
          intro a hS
          refine drawnDone (by kernel_rfl) ?_
          clear hD hH
          replace hS := hS.sel [10, 11, 12] [] (sy' := ⟨[(10, V (.slice none 0 0)), (11, I ((gi l_ (IntKind.i64.wrap (((out_114.length : Nat) : Int) + 1))).At)), (12, I 6)], []⟩) (by kernel_rfl)
          refine wret ?_
          exact fin T hS hO (fun c => c) rfl (r := [.slice none 0 0, .int .i64 ((gi l_ (IntKind.i64.wrap (((out_114.length : Nat) : Int) + 1))).At), .int .i64 6]) (by kernel_rfl) (fun χ' hM hC => ⟨([], (gi l_ (IntKind.i64.wrap (((out_114.length : Nat) : Int) + 1))).At, 6), hm, none, 0, rfl, RS.empty _ _ _⟩)
        · replace hm := hm.2 hb
          refine wskip ?_
          refine regP T hS (sp := []) (ks := [10, 11, 12]) (bs := []) (sy' := ⟨[(10, V (.slice a115 out_114.length c116)), (11, I end_), (12, I 0)], []⟩) (by kernel_rfl) ?_
          intro a hS
          refine wret ?_
          obtain ⟨χ125, hE, hF⟩ := h117.freeze (by decide)
          replace hS := hS.ev hE (xone_box (by kernel_rfl))
          replace hO := hO.mv hE rfl rfl
          have h126 := hF; clear hE hF
          exact fin T hS hO (fun c => c) rfl (r := [.slice a115 out_114.length c116, .int .i64 end_, .int .i64 0]) (by kernel_rfl) (fun χ' hM hC => ⟨(out_114, end_, 0), hm, a115, c116, rfl, h126.m0 hM⟩)
theorem C22 (k39 : S39) (v : ∀ (l_ : List Ref05_Token) (word : List UInt8) (lo : List Int) (hi : List Int) (end_ : Int), preNR l_ word lo hi end_ → VC22 l_ word lo hi end_ (fun r => r = ref24_Numbers l_ word lo hi end_)) : S22 := by
  intro w χ l_ word lo hi end_ a1 c1 a2 c2 a3 c3   hp h1 h2 h3
  refine (W22 k39 w χ l_ word lo hi end_ a1 c1 a2 c2 a3 c3   _ (v l_ word lo hi end_ hp) h1 h2 h3).mono ?_
  rintro _ _ _ _ ⟨r, rfl, h⟩
  exact h
def S26 : Prop := ∀ (w : World) (χ : Nat → Nat) (lines : List (List Token_Token)) (a1 : Option Addr) (c1 : Nat), RS (tSlice tToken_Token) w χ a1 lines c1 → Ret Tryd.prog 26 #[.slice a1 lines.length c1] xnone w χ (fun w χ' v => ∃ (ra1 : Option Addr) (rc1 : Nat) (ra2 : Option Addr) (rc2 : Nat), v = .tuple #[.slice ra1 ((objtext_next lines).1).length rc1, .slice ra2 ((objtext_next lines).2).length rc2] ∧ RS tToken_Token w χ' ra1 ((objtext_next lines).1) rc1 ∧ RS (tSlice tToken_Token) w χ' ra2 ((objtext_next lines).2) rc2)
theorem hb26 : hasBody Tryd.prog 26 = true := by kernel_rfl
/-- replevin/objtext.next -/
theorem W26 (w0 : World) (χ0 : Nat → Nat) (lines : List (List Token_Token)) (a1 : Option Addr) (c1 : Nat) (Q : (List Token_Token) × (List (List Token_Token)) → Prop) (hm : VC26 lines Q) (h1 : RS (tSlice tToken_Token) w0 χ0 a1 lines c1) :
    Ret Tryd.prog 26 #[.slice a1 lines.length c1] xnone w0 χ0 (fun w χ' v => ∃ r, Q r ∧ ∃ (ra1 : Option Addr) (rc1 : Nat) (ra2 : Option Addr) (rc2 : Nat), v = .tuple #[.slice ra1 r.1.length rc1, .slice ra2 r.2.length rc2] ∧ RS tToken_Token w χ' ra1 r.1 rc1 ∧ RS (tSlice tToken_Token) w χ' ra2 r.2 rc2) := by
  unfold VC26 at hm
  replace hm := hm (h1.sm (by kernel_rfl))
  refine enter Tryd.func26 rfl (vals := [.slice a1 lines.length c1]) (by kernel_rfl) ?_
  intro ρ a hS hO hM
  replace h1 := h1.m0 hM
  clear hM
  refine regP T hS (sp := []) (ks := [0]) (bs := []) (sy' := ⟨[(0, V (.slice a1 lines.length c1))], []⟩) (by kernel_rfl) ?_
  intro a hS
  refine wcut (fun a w => ∃ (ρ : Nat → Nat) (χ : Nat → Nat), VC26_J1 Q ∧ St Tryd.f26.ntmps ⟨[], []⟩ ρ a w χ ∧ Old w0 χ0 w χ) ?_ ?_
  · refine regP T hS (sp := []) (ks := [0, 6, 7, 8]) (bs := []) (sy' := ⟨[(0, V (.slice a1 lines.length c1)), (6, V (.slice a1 lines.length c1)), (7, I ((lines.length : Nat) : Int)), (8, I 0)], []⟩) (by kernel_rfl) ?_
    intro a hS
    refine wblock ?_
    obtain ⟨I1, μ1, hm0, hm⟩ := hm
    refine wloop (σ := Int) (fun s a w => ∃ (ρ : Nat → Nat) (χ : Nat → Nat), I1 s ∧ St Tryd.f26.ntmps ⟨[(0, V (.slice a1 lines.length c1)), (6, V (.slice a1 lines.length c1)), (7, I ((lines.length : Nat) : Int)), (8, I s)], []⟩ ρ a w χ ∧ Old w0 χ0 w χ ∧ RS (tSlice tToken_Token) w χ a1 lines c1 ∧ RS (tSlice tToken_Token) w χ a1 lines c1) (fun s => μ1 s) (0) ?_ ?_
    · exact ⟨ρ, _, hm0, hS.sel [0, 6, 7, 8] [] (by kernel_rfl), hO, h1, h1⟩
    · rintro x_103 a w116 ⟨ρ, χ115, hI, hS, hO, h101, h102⟩
      replace hm := hm x_103 hI
      clear hI hm0
      refine regP T hS (sp := []) (ks := [0, 6, 7, 8, 9]) (bs := []) (sy' := ⟨[(0, V (.slice a1 lines.length c1)), (6, V (.slice a1 lines.length c1)), (7, I ((lines.length : Nat) : Int)), (8, I x_103), (9, B (decide (x_103 < ((lines.length : Nat) : Int))))], []⟩) (by kernel_rfl) ?_
      intro a hS
      refine wseq ?_
      refine wcond hS (b := decide (x_103 < ((lines.length : Nat) : Int))) (by kernel_rfl) (fun hb => ?_) (fun hb => ?_)
      · replace hm := hm.1 hb
        refine wskip ?_
        refine wseq ?_
        refine wblock ?_
        refine regO ?_
        refine opsP T hS 1 (sp := []) (ks := [0, 6, 7, 8, 10]) (bs := []) (sy' := ⟨[(0, V (.slice a1 lines.length c1)), (6, V (.slice a1 lines.length c1)), (7, I ((lines.length : Nat) : Int)), (8, I x_103), (10, I x_103)], []⟩) (by kernel_rfl) ?_
        intro a hS
        obtain ⟨hq, hm⟩ := hm
        refine op1 (index (e := 53) (k := .i64) T hS (by kernel_rfl) (by kernel_rfl) (by kernel_rfl) (by kernel_rfl) h102 (by kernel_rfl) (by kernel_rfl) hq.1 hq.2 ?_)
        intro A104 a h105 hS
        clear hq
        refine op1 (load1 T hS (by kernel_rfl) (by kernel_rfl) (by kernel_rfl) h105 rfl (by kernel_rfl) ?_)
        intro v106 a hv hS
        obtain ⟨a107, c108, hv, h109⟩ := hv
        cases hv
        replace hm := hm (h109.sm (by kernel_rfl))
        refine endP T hS (sp := []) (ks := [0, 4, 5, 6, 7, 8]) (bs := []) (sy' := ⟨[(0, V (.slice a1 lines.length c1)), (4, I x_103), (5, V (.slice a107 (gi lines x_103).length c108)), (6, V (.slice a1 lines.length c1)), (7, I ((lines.length : Nat) : Int)), (8, I x_103)], []⟩) (by kernel_rfl) ?_
        intro a hS
        refine regP T hS (sp := []) (ks := [0, 4, 5, 6, 7, 8, 15]) (bs := []) (sy' := ⟨[(0, V (.slice a1 lines.length c1)), (4, I x_103), (5, V (.slice a107 (gi lines x_103).length c108)), (6, V (.slice a1 lines.length c1)), (7, I ((lines.length : Nat) : Int)), (8, I x_103), (15, B (decide ((((gi lines x_103).length : Nat) : Int) > 0)))], []⟩) (by kernel_rfl) ?_
        intro a hS
        refine wcond hS (b := decide ((((gi lines x_103).length : Nat) : Int) > 0)) (by kernel_rfl) (fun hb => ?_) (fun hb => ?_)
        · replace hm := hm.1 hb
          refine drawnSX [] mixed hS ?_
          intro w110 χ111 hS hE hD hH
          replace hO := hO.mv hE rfl rfl
          replace h101 := h101.mv hE rfl
          replace h109 := h109.mv hE rfl
          clear hE
          refine take T [0, 1, 2, 3, 5] [] [2, 17, 19] hS (by kernel_rfl) (by kernel_rfl) (by kernel_rfl) hH (listed' := #[true, true, true, true, false, true, false]) (fuel := 2) (sy' := ⟨[(2, V (.slice a107 (gi lines x_103).length c108)), (17, V (.slice a1 lines.length c1)), (19, I (IntKind.i64.wrap (x_103 + 1)))], []⟩) (by kernel_rfl) (by rfl) ?_
          intro a hS
          obtain ⟨hq, hm⟩ := hm
          refine dslice1 (E := 53) (kl := .i64) T 4 hS (by kernel_rfl) (by kernel_rfl) (by kernel_rfl) (by rfl) (by kernel_rfl) hH (by kernel_rfl) (by kernel_rfl) h101 (by kernel_rfl) (by kernel_rfl) hq.1 hq.2 ?_
          intro a112 c113 a h114 hS
          clear hq
          refine take T [6] [] [2, 3] hS (by kernel_rfl) (by kernel_rfl) (by kernel_rfl) hH (listed' := #[true, true, true, true, true, true, true]) (fuel := 0) (sy' := ⟨[(2, V (.slice a107 (gi lines x_103).length c108)), (3, V (.slice a112 (lines.drop (IntKind.i64.wrap (x_103 + 1)).toNat).length c113))], []⟩) (by kernel_rfl) (by rfl) ?_
          intro a hS
          refine drawnDone (by kernel_rfl) ?_
          clear hD hH
          replace hS := hS.sel [2, 3] [] (sy' := ⟨[(2, V (.slice a107 (gi lines x_103).length c108)), (3, V (.slice a112 (lines.drop (IntKind.i64.wrap (x_103 + 1)).toNat).length c113))], []⟩) (by kernel_rfl)
          refine wret ?_
          exact fin T hS hO (fun c => c) rfl (r := [.slice a107 (gi lines x_103).length c108, .slice a112 (lines.drop (IntKind.i64.wrap (x_103 + 1)).toNat).length c113]) (by kernel_rfl) (fun χ' hM hC => ⟨(gi lines x_103, lines.drop (IntKind.i64.wrap (x_103 + 1)).toNat), hm, a107, c108, a112, c113, rfl, h109.m0 hM, h114.m0 hM⟩)
        · replace hm := hm.2 hb
          refine wskip ?_
          refine region (endP T hS (sp := []) (ks := [0, 6, 7, 8]) (bs := []) (sy' := ⟨[(0, V (.slice a1 lines.length c1)), (6, V (.slice a1 lines.length c1)), (7, I ((lines.length : Nat) : Int)), (8, I (IntKind.i64.wrap (x_103 + 1)))], []⟩) (by kernel_rfl) ?_)
          intro a hS
          exact ⟨IntKind.i64.wrap (x_103 + 1), ⟨ρ, _, hm.1, hS.sel [0, 6, 7, 8] [] (by kernel_rfl), hO, h101, h102⟩, hm.2⟩
      · replace hm := hm.2 hb
        refine wexit (by rfl) ?_
        exact ⟨ρ, _, hm, hS.sel [] [] (by kernel_rfl), hO⟩
  · rintro a w118 ⟨ρ, χ117, hm, hS, hO⟩
    unfold VC26_J1 at hm
    refine regP T hS (sp := []) (ks := [2, 3]) (bs := []) (sy' := ⟨[(2, V (.slice none 0 0)), (3, V (.slice none 0 0))], []⟩) (by kernel_rfl) ?_
    intro a hS
    refine wret ?_
    exact fin T hS hO (fun c => c) rfl (r := [.slice none 0 0, .slice none 0 0]) (by kernel_rfl) (fun χ' hM hC => ⟨([], []), hm, none, 0, none, 0, rfl, RS.empty _ _ _, RS.empty _ _ _⟩)
theorem C26 (v : ∀ (lines : List (List Token_Token)), VC26 lines (fun r => r = objtext_next lines)) : S26 := by
  intro w χ lines a1 c1   h1
  refine (W26 w χ lines a1 c1   _ (v lines) h1).mono ?_
  rintro _ _ _ _ ⟨r, rfl, h⟩
  exact h
def S11 : Prop := ∀ (w : World) (χ : Nat → Nat) (lines : List (List Token_Token)) (end_ : Int) (a1 : Option Addr) (c1 : Nat), preTk lines end_ → RS (tSlice tToken_Token) w χ a1 lines c1 → Ret Tryd.prog 11 #[.slice a1 lines.length c1, .int .i64 end_] xnone w χ (fun w χ' v => ∃ (ra1 : Option Addr) (rc1 : Nat) (ra2 : Option Addr) (rc2 : Nat), v = .tuple #[.agg #[.int .i64 (((objtext_Take lines end_).1).States), .int .i64 (((objtext_Take lines end_).1).Kinds), .int .i64 (((objtext_Take lines end_).1).Init), .slice ra1 (((objtext_Take lines end_).1).Rows).length rc1], .slice ra2 ((objtext_Take lines end_).2.1).length rc2, .int .i64 ((objtext_Take lines end_).2.2.1), .int .i64 ((objtext_Take lines end_).2.2.2)] ∧ RS tApi_Row w χ' ra1 (((objtext_Take lines end_).1).Rows) rc1 ∧ RS (tSlice tToken_Token) w χ' ra2 ((objtext_Take lines end_).2.1) rc2)
theorem hb11 : hasBody Tryd.prog 11 = true := by kernel_rfl
/-- replevin/objtext.Take -/
theorem W11 (k21 : S21) (k24 : S24) (k26 : S26) (k28 : S28) (w0 : World) (χ0 : Nat → Nat) (lines : List (List Token_Token)) (end_ : Int) (a1 : Option Addr) (c1 : Nat) (Q : Api_Object × (List (List Token_Token)) × Int × Int → Prop) (hm : VC11 lines end_ Q) (h1 : RS (tSlice tToken_Token) w0 χ0 a1 lines c1) :
    Ret Tryd.prog 11 #[.slice a1 lines.length c1, .int .i64 end_] xnone w0 χ0 (fun w χ' v => ∃ r, Q r ∧ ∃ (ra1 : Option Addr) (rc1 : Nat) (ra2 : Option Addr) (rc2 : Nat), v = .tuple #[.agg #[.int .i64 r.1.States, .int .i64 r.1.Kinds, .int .i64 r.1.Init, .slice ra1 r.1.Rows.length rc1], .slice ra2 r.2.1.length rc2, .int .i64 r.2.2.1, .int .i64 r.2.2.2] ∧ RS tApi_Row w χ' ra1 r.1.Rows rc1 ∧ RS (tSlice tToken_Token) w χ' ra2 r.2.1 rc2) := by
  unfold VC11 at hm
  replace hm := hm (h1.sm (by kernel_rfl))
  refine enter Tryd.func11 rfl (vals := [.slice a1 lines.length c1, .int .i64 end_]) (by kernel_rfl) ?_
  intro ρ a hS hO hM
  replace h1 := h1.m0 hM
  clear hM
  refine regM T hS (sp := []) (ks := [0, 1, 4]) (bs := [5]) (sy' := ⟨[(0, V (.slice a1 lines.length c1)), (1, I end_), (4, Pt 5 0)], [(5, (25, [I 0, I 0, I 0, V (.slice none 0 0)]))]⟩) (by kernel_rfl) ?_
  intro ρ a w348 χ349 hS hE hr
  replace hO := hO.mv hE rfl rfl
  replace h1 := h1.mv hE rfl
  clear hE hr
  refine regO ?_
  obtain ⟨hq, hm⟩ := hm
  refine op1 (call hS (by kernel_rfl) (by kernel_rfl) hb28 (by kernel_rfl) (fun _ _ => rfl) (k28 _ _ 4 hq) ?_)
  intro v101 a w102 χ103 hE hp hS
  clear hq
  replace hO := hO.mv hE rfl rfl
  replace h1 := h1.mv hE rfl
  clear hE
  obtain ⟨a105, c106, a108, c109, hp, h107, h110⟩ := hp
  obtain ⟨r104, hr⟩ : ∃ r, objtext_bounds 4 = r := ⟨_, rfl⟩
  replace hm := hm r104 hr
  rw [hr] at hp h107 h110
  clear hr
  subst hp
  replace hm := hm (h107.sm (by kernel_rfl))
  replace hm := hm (h110.sm (by kernel_rfl))
  refine endP T hS (sp := []) (ks := [0, 1, 4, 8, 9]) (bs := [5]) (sy' := ⟨[(0, V (.slice a1 lines.length c1)), (1, I end_), (4, Pt 5 0), (8, V (.slice a105 r104.1.length c106)), (9, V (.slice a108 r104.2.length c109))], [(5, (25, [I 0, I 0, I 0, V (.slice none 0 0)]))]⟩) (by kernel_rfl) ?_
  intro a hS
  refine regO ?_
  refine opsP T hS 1 (sp := []) (ks := [1, 4, 8, 9, 26]) (bs := [5]) (sy' := ⟨[(1, I end_), (4, Pt 5 0), (8, V (.slice a105 r104.1.length c106)), (9, V (.slice a108 r104.2.length c109)), (26, V (.slice a1 lines.length c1))], [(5, (25, [I 0, I 0, I 0, V (.slice none 0 0)]))]⟩) (by kernel_rfl) ?_
  intro a hS
  refine op1 (call hS (by kernel_rfl) (by kernel_rfl) hb26 (by kernel_rfl) (fun _ _ => rfl) (k26 _ _ lines a1 c1 h1) ?_)
  intro v111 a w112 χ113 hE hp hS
  replace hO := hO.mv hE rfl rfl
  replace h1 := h1.mv hE rfl
  replace h107 := h107.mv hE rfl
  replace h110 := h110.mv hE rfl
  clear hE
  obtain ⟨a115, c116, a118, c119, hp, h117, h120⟩ := hp
  obtain ⟨r114, hr⟩ : ∃ r, objtext_next lines = r := ⟨_, rfl⟩
  replace hm := hm r114 hr
  rw [hr] at hp h117 h120
  clear hr
  subst hp
  replace hm := hm (h117.sm (by kernel_rfl))
  replace hm := hm (h120.sm (by kernel_rfl))
  refine endP T hS (sp := []) (ks := [1, 4, 5, 8, 9, 10]) (bs := [5]) (sy' := ⟨[(1, I end_), (4, Pt 5 0), (5, V (.slice a118 r114.2.length c119)), (8, V (.slice a105 r104.1.length c106)), (9, V (.slice a108 r104.2.length c109)), (10, V (.slice a115 r114.1.length c116))], [(5, (25, [I 0, I 0, I 0, V (.slice none 0 0)]))]⟩) (by kernel_rfl) ?_
  intro a hS
  refine regO ?_
  refine opsP T hS 4 (sp := []) (ks := [1, 4, 5, 8, 9, 10, 31, 32, 33, 34]) (bs := [5]) (sy' := ⟨[(1, I end_), (4, Pt 5 0), (5, V (.slice a118 r114.2.length c119)), (8, V (.slice a105 r104.1.length c106)), (9, V (.slice a108 r104.2.length c109)), (10, V (.slice a115 r114.1.length c116)), (31, V (.slice a115 r114.1.length c116)), (32, V (.slice a105 r104.1.length c106)), (33, V (.slice a108 r104.2.length c109)), (34, I end_)], [(5, (25, [I 0, I 0, I 0, V (.slice none 0 0)]))]⟩) (by kernel_rfl) ?_
  intro a hS
  obtain ⟨hq, hm⟩ := hm
  refine op1 (call hS (by kernel_rfl) (by kernel_rfl) hb21 (by kernel_rfl) (fun _ _ => rfl) (k21 _ _ r114.1 ([111, 98, 106, 101, 99, 116] : List UInt8) r104.1 r104.2 end_ a115 c116 a105 c106 a108 c109 hq h117 h107 h110) ?_)
  intro v121 a w122 χ123 hE hp hS
  clear hq
  replace hO := hO.mv hE rfl rfl
  replace h107 := h107.mv hE rfl
  replace h110 := h110.mv hE rfl
  replace h117 := h117.mv hE rfl
  replace h120 := h120.mv hE rfl
  clear hE
  obtain ⟨a125, c126, hp, h127⟩ := hp
  obtain ⟨r124, hr⟩ : ∃ r, objtext_Numbers r114.1 ([111, 98, 106, 101, 99, 116] : List UInt8) r104.1 r104.2 end_ = r := ⟨_, rfl⟩
  replace hm := hm r124 hr
  rw [hr] at hp h127
  clear hr
  subst hp
  replace hm := hm (h127.sm (by kernel_rfl))
  refine endP T hS (sp := []) (ks := [1, 4, 5, 6, 7, 8, 9, 10, 11]) (bs := [5]) (sy' := ⟨[(1, I end_), (4, Pt 5 0), (5, V (.slice a118 r114.2.length c119)), (6, I r124.2.1), (7, I r124.2.2), (8, V (.slice a105 r104.1.length c106)), (9, V (.slice a108 r104.2.length c109)), (10, V (.slice a115 r114.1.length c116)), (11, V (.slice a125 r124.1.length c126))], [(5, (25, [I 0, I 0, I 0, V (.slice none 0 0)]))]⟩) (by kernel_rfl) ?_
  intro a hS
  refine wseq ?_
  refine regP T hS (sp := []) (ks := [1, 4, 5, 6, 7, 8, 9, 10, 11, 40]) (bs := [5]) (sy' := ⟨[(1, I end_), (4, Pt 5 0), (5, V (.slice a118 r114.2.length c119)), (6, I r124.2.1), (7, I r124.2.2), (8, V (.slice a105 r104.1.length c106)), (9, V (.slice a108 r104.2.length c109)), (10, V (.slice a115 r114.1.length c116)), (11, V (.slice a125 r124.1.length c126)), (40, B (r124.2.2 != 0))], [(5, (25, [I 0, I 0, I 0, V (.slice none 0 0)]))]⟩) (by kernel_rfl) ?_
  intro a hS
  refine wcond hS (b := (r124.2.2 != 0)) (by kernel_rfl) (fun hb => ?_) (fun hb => ?_)
  · replace hm := hm.1 hb
    refine regM T hS (sp := []) (ks := [4, 5, 6, 7]) (bs := [5]) (sy' := ⟨[(4, Pt 5 0), (5, V (.slice none 0 0)), (6, I r124.2.1), (7, I r124.2.2)], [(5, (25, [I 0, I 0, I 0, V (.slice none 0 0)]))]⟩) (by kernel_rfl) ?_
    intro ρ a w128 χ129 hS hE hr
    replace hO := hO.mv hE rfl rfl
    clear hE hr
    refine wret ?_
    exact fin T hS hO (fun c => c) rfl (r := [.agg #[.int .i64 0, .int .i64 0, .int .i64 0, .slice none 0 0], .slice none 0 0, .int .i64 r124.2.1, .int .i64 r124.2.2]) (by kernel_rfl) (fun χ' hM hC => ⟨((⟨0, 0, 0, []⟩ : Api_Object), [], r124.2.1, r124.2.2), hm, none, 0, none, 0, rfl, RS.empty _ _ _, RS.empty _ _ _⟩)
  · replace hm := hm.2 hb
    refine wskip ?_
    refine drawnSX [5] mixed hS ?_
    intro w130 χ131 hS hE hD hH
    replace hO := hO.mv hE rfl rfl
    replace h107 := h107.mv hE rfl
    replace h110 := h110.mv hE rfl
    replace h117 := h117.mv hE rfl
    replace h120 := h120.mv hE rfl
    replace h127 := h127.mv hE rfl
    clear hE
    refine take T [0, 3, 6] [5] [1, 4, 5, 8, 9, 10, 11, 44, 47, 50] hS (by kernel_rfl) (by kernel_rfl) (by kernel_rfl) hH (listed' := #[true, false, false, true, false, false, true, false, false, false, false, false]) (fuel := 9) (sy' := ⟨[(1, I end_), (4, Pt 5 0), (5, V (.slice a118 r114.2.length c119)), (8, V (.slice a105 r104.1.length c106)), (9, V (.slice a108 r104.2.length c109)), (10, V (.slice a115 r114.1.length c116)), (11, V (.slice a125 r124.1.length c126)), (44, V (.slice a125 r124.1.length c126)), (47, V (.slice a125 r124.1.length c126)), (50, V (.slice a125 r124.1.length c126))], [(5, (25, [I 0, I 0, I 0, V (.slice none 0 0)]))]⟩) (by kernel_rfl) (by rfl) ?_
    intro a hS
    obtain ⟨hq, hm⟩ := hm
    refine dindex (e := 3) (k := .i64) T 1 hS (by kernel_rfl) (by kernel_rfl) (by kernel_rfl) (by rfl) (by kernel_rfl) hH (by kernel_rfl) (by kernel_rfl) h127 (by kernel_rfl) (by kernel_rfl) hq.1 hq.2 ?_
    intro A132 a h133 hS
    clear hq
    have h133b := h133.here
    refine dload1 T 2 hS (by kernel_rfl) (by kernel_rfl) (by kernel_rfl) (by rfl) (by kernel_rfl) hH (by kernel_rfl) h133 h133b rfl (by kernel_rfl) ?_
    intro v134 a hv hS
    cases hv
    obtain ⟨hq, hm⟩ := hm
    refine dindex (e := 3) (k := .i64) T 4 hS (by kernel_rfl) (by kernel_rfl) (by kernel_rfl) (by rfl) (by kernel_rfl) hH (by kernel_rfl) (by kernel_rfl) h127 (by kernel_rfl) (by kernel_rfl) hq.1 hq.2 ?_
    intro A135 a h136 hS
    clear hq
    have h136b := h136.here
    refine dload1 T 5 hS (by kernel_rfl) (by kernel_rfl) (by kernel_rfl) (by rfl) (by kernel_rfl) hH (by kernel_rfl) h136 h136b rfl (by kernel_rfl) ?_
    intro v137 a hv hS
    cases hv
    obtain ⟨hq, hm⟩ := hm
    refine dindex (e := 3) (k := .i64) T 7 hS (by kernel_rfl) (by kernel_rfl) (by kernel_rfl) (by rfl) (by kernel_rfl) hH (by kernel_rfl) (by kernel_rfl) h127 (by kernel_rfl) (by kernel_rfl) hq.1 hq.2 ?_
    intro A138 a h139 hS
    clear hq
    have h139b := h139.here
    refine dload1 T 8 hS (by kernel_rfl) (by kernel_rfl) (by kernel_rfl) (by rfl) (by kernel_rfl) hH (by kernel_rfl) h139 h139b rfl (by kernel_rfl) ?_
    intro v140 a hv hS
    cases hv
    refine take T [9] [5] [1, 4, 5, 8, 9, 10, 11, 53] hS (by kernel_rfl) (by kernel_rfl) (by kernel_rfl) hH (listed' := #[true, true, true, true, true, true, true, true, true, true, false, false]) (fuel := 2) (sy' := ⟨[(1, I end_), (4, Pt 5 0), (5, V (.slice a118 r114.2.length c119)), (8, V (.slice a105 r104.1.length c106)), (9, V (.slice a108 r104.2.length c109)), (10, V (.slice a115 r114.1.length c116)), (11, V (.slice a125 r124.1.length c126)), (53, V (.agg #[.int .i64 (gi r124.1 0), .int .i64 (gi r124.1 1), .int .i64 (gi r124.1 2), .slice none 0 0]))], [(5, (25, [I 0, I 0, I 0, V (.slice none 0 0)]))]⟩) (by kernel_rfl) (by rfl) ?_
    intro a hS
    replace hS := hS.sel [1, 4, 5, 8, 9, 10, 11, 53] [5] (sy' := ⟨[(1, I end_), (4, Pt 5 0), (5, V (.slice a118 r114.2.length c119)), (8, V (.slice a105 r104.1.length c106)), (9, V (.slice a108 r104.2.length c109)), (10, V (.slice a115 r114.1.length c116)), (11, V (.slice a125 r124.1.length c126)), (53, V (.agg #[.int .i64 (gi r124.1 0), .int .i64 (gi r124.1 1), .int .i64 (gi r124.1 2), .slice none 0 0]))], [(5, (25, [I 0, I 0, I 0, V (.slice none 0 0)]))]⟩) (by kernel_rfl)
    refine only 10 (by kernel_rfl) (by rfl) (box1 T hS (by kernel_rfl) (by kernel_rfl) (by kernel_rfl) (sy' := ⟨[(12, Pt 13 0), (1, I end_), (4, Pt 5 0), (5, V (.slice a118 r114.2.length c119)), (8, V (.slice a105 r104.1.length c106)), (9, V (.slice a108 r104.2.length c109)), (10, V (.slice a115 r114.1.length c116)), (11, V (.slice a125 r124.1.length c126)), (53, V (.agg #[.int .i64 (gi r124.1 0), .int .i64 (gi r124.1 1), .int .i64 (gi r124.1 2), .slice none 0 0]))], [(13, (25, [I 0, I 0, I 0, V (.slice none 0 0)])), (5, (25, [I 0, I 0, I 0, V (.slice none 0 0)]))]⟩) (by kernel_rfl) ?_)
    intro ρ a w141 χ142 hS hE hr143
    replace hO := hO.mv hE rfl rfl
    replace hD := hD.ev hE rfl
    replace h107 := h107.mv hE rfl
    replace h110 := h110.mv hE rfl
    replace h117 := h117.mv hE rfl
    replace h120 := h120.mv hE rfl
    replace h127 := h127.mv hE rfl
    replace h133 := h133.mv hE rfl
    replace h136 := h136.mv hE rfl
    replace h139 := h139.mv hE rfl
    clear hE
    replace hS := hS.sel [1, 4, 5, 8, 9, 10, 11, 53, 12] [5, 13] (sy' := ⟨[(1, I end_), (4, Pt 5 0), (5, V (.slice a118 r114.2.length c119)), (8, V (.slice a105 r104.1.length c106)), (9, V (.slice a108 r104.2.length c109)), (10, V (.slice a115 r114.1.length c116)), (11, V (.slice a125 r124.1.length c126)), (53, V (.agg #[.int .i64 (gi r124.1 0), .int .i64 (gi r124.1 1), .int .i64 (gi r124.1 2), .slice none 0 0])), (12, Pt 13 0)], [(5, (25, [I 0, I 0, I 0, V (.slice none 0 0)])), (13, (25, [I 0, I 0, I 0, V (.slice none 0 0)]))]⟩) (by kernel_rfl)
    refine andH ((Hold.of hS (bks := [5]) (by kernel_rfl) hD).rho hr143 (by kernel_rfl)) ?_
    intro hH
    replace hS := hS.sel [1, 4, 5, 8, 9, 10, 11, 53, 12] [5, 13] (sy' := ⟨[(1, I end_), (4, Pt 5 0), (5, V (.slice a118 r114.2.length c119)), (8, V (.slice a105 r104.1.length c106)), (9, V (.slice a108 r104.2.length c109)), (10, V (.slice a115 r114.1.length c116)), (11, V (.slice a125 r124.1.length c126)), (53, V (.agg #[.int .i64 (gi r124.1 0), .int .i64 (gi r124.1 1), .int .i64 (gi r124.1 2), .slice none 0 0])), (12, Pt 13 0)], [(5, (25, [I 0, I 0, I 0, V (.slice none 0 0)])), (13, (25, [I 0, I 0, I 0, V (.slice none 0 0)]))]⟩) (by kernel_rfl)
    refine only 11 (by kernel_rfl) (by rfl) (store1 T hS (by kernel_rfl) (by kernel_rfl) (sy' := ⟨[(1, I end_), (4, Pt 5 0), (5, V (.slice a118 r114.2.length c119)), (8, V (.slice a105 r104.1.length c106)), (9, V (.slice a108 r104.2.length c109)), (10, V (.slice a115 r114.1.length c116)), (11, V (.slice a125 r124.1.length c126)), (53, V (.agg #[.int .i64 (gi r124.1 0), .int .i64 (gi r124.1 1), .int .i64 (gi r124.1 2), .slice none 0 0])), (12, Pt 13 0)], [(13, (25, [I (gi r124.1 0), I (gi r124.1 1), I (gi r124.1 2), V (.slice none 0 0)])), (5, (25, [I 0, I 0, I 0, V (.slice none 0 0)])), (13, (25, [I 0, I 0, I 0, V (.slice none 0 0)]))]⟩) (by kernel_rfl) ?_)
    intro a w144 χ145 hS hE
    replace hO := hO.mv hE rfl rfl
    replace hD := hD.ev hE rfl
    replace h107 := h107.mv hE rfl
    replace h110 := h110.mv hE rfl
    replace h117 := h117.mv hE rfl
    replace h120 := h120.mv hE rfl
    replace h127 := h127.mv hE rfl
    replace h133 := h133.mv hE rfl
    replace h136 := h136.mv hE rfl
    replace h139 := h139.mv hE rfl
    clear hE
    replace hS := hS.sel [1, 4, 5, 8, 9, 10, 11, 53, 12] [5, 13] (sy' := ⟨[(1, I end_), (4, Pt 5 0), (5, V (.slice a118 r114.2.length c119)), (8, V (.slice a105 r104.1.length c106)), (9, V (.slice a108 r104.2.length c109)), (10, V (.slice a115 r114.1.length c116)), (11, V (.slice a125 r124.1.length c126)), (53, V (.agg #[.int .i64 (gi r124.1 0), .int .i64 (gi r124.1 1), .int .i64 (gi r124.1 2), .slice none 0 0])), (12, Pt 13 0)], [(5, (25, [I 0, I 0, I 0, V (.slice none 0 0)])), (13, (25, [I (gi r124.1 0), I (gi r124.1 1), I (gi r124.1 2), V (.slice none 0 0)]))]⟩) (by kernel_rfl)
    refine andH ((Hold.of hS (bks := [5]) (by kernel_rfl) hD).rho hr143 (by kernel_rfl)) ?_
    intro hH
    refine drawnDone (by kernel_rfl) ?_
    clear hD hH
    replace hS := hS.sel [1, 4, 5, 8, 9, 10, 11, 12] [5, 13] (sy' := ⟨[(1, I end_), (4, Pt 5 0), (5, V (.slice a118 r114.2.length c119)), (8, V (.slice a105 r104.1.length c106)), (9, V (.slice a108 r104.2.length c109)), (10, V (.slice a115 r114.1.length c116)), (11, V (.slice a125 r124.1.length c126)), (12, Pt 13 0)], [(5, (25, [I 0, I 0, I 0, V (.slice none 0 0)])), (13, (25, [I (gi r124.1 0), I (gi r124.1 1), I (gi r124.1 2), V (.slice none 0 0)]))]⟩) (by kernel_rfl)
    refine regO ?_
    refine op1 (lit (E := 3) (col := 1014) (T := tI) (vals := []) (ys := ([] : List Int)) T hS (by kernel_rfl) (by kernel_rfl) (by kernel_rfl) (by kernel_rfl) trivial rfl (by kernel_rfl) (by kernel_rfl) (by kernel_rfl) (by kernel_rfl) ?_)
    intro b146 a w147 χ148 hE h149 hN hS
    clear hN
    replace hO := hO.mv hE rfl rfl
    replace h107 := h107.mv hE rfl
    replace h110 := h110.mv hE rfl
    replace h117 := h117.mv hE rfl
    replace h120 := h120.mv hE rfl
    replace h127 := h127.mv hE rfl
    clear hE
    refine endP T hS (sp := []) (ks := [1, 4, 5, 8, 9, 10, 11, 12, 13]) (bs := [5, 13]) (sy' := ⟨[(1, I end_), (4, Pt 5 0), (5, V (.slice a118 r114.2.length c119)), (8, V (.slice a105 r104.1.length c106)), (9, V (.slice a108 r104.2.length c109)), (10, V (.slice a115 r114.1.length c116)), (11, V (.slice a125 r124.1.length c126)), (12, Pt 13 0), (13, V (.slice (some ⟨b146, 0, none⟩) ([] : List Int).length 0))], [(5, (25, [I 0, I 0, I 0, V (.slice none 0 0)])), (13, (25, [I (gi r124.1 0), I (gi r124.1 1), I (gi r124.1 2), V (.slice none 0 0)]))]⟩) (by kernel_rfl) ?_
    intro a hS
    refine wcut (fun a w => ∃ (ρ : Nat → Nat) (χ : Nat → Nat) (rest_150 : List (List Token_Token)) (places_155 : List Int) (x_159 : Int) (x_160 : Int) (x_161 : Int) (x_162 : List Api_Row) (a151 : Option Addr) (c152 : Nat) (a156 : Option Addr) (c157 : Nat) (a163 : Option Addr) (c164 : Nat), VC11_J1 end_ Q r114 rest_150 places_155 x_159 x_160 x_161 x_162 ∧ St Tryd.f11.ntmps ⟨[(1, I end_), (4, Pt 5 0), (5, V (.slice a151 rest_150.length c152)), (10, V (.slice a115 r114.1.length c116)), (12, Pt 13 0), (13, V (.slice a156 places_155.length c157))], [(5, (25, [I 0, I 0, I 0, V (.slice none 0 0)])), (13, (25, [I x_159, I x_160, I x_161, V (.slice a163 x_162.length c164)]))]⟩ ρ a w χ ∧ Old w0 χ0 w χ ∧ RS (tSlice tToken_Token) w χ a151 rest_150 c152 ∧ RS tToken_Token w χ a115 r114.1 c116 ∧ OS tI 3 w χ 1014 a156 places_155 c157 ∧ OS tApi_Row 66 w χ 1089 a163 x_162 c164) ?_ ?_
    · refine regO ?_
      refine opsP T hS 1 (sp := []) (ks := [1, 4, 5, 8, 9, 10, 12, 13, 55]) (bs := [5, 13]) (sy' := ⟨[(1, I end_), (4, Pt 5 0), (5, V (.slice a118 r114.2.length c119)), (8, V (.slice a105 r104.1.length c106)), (9, V (.slice a108 r104.2.length c109)), (10, V (.slice a115 r114.1.length c116)), (12, Pt 13 0), (13, V (.slice (some ⟨b146, 0, none⟩) ([] : List Int).length 0)), (55, V (.slice a125 r124.1.length c126))], [(5, (25, [I 0, I 0, I 0, V (.slice none 0 0)])), (13, (25, [I (gi r124.1 0), I (gi r124.1 1), I (gi r124.1 2), V (.slice none 0 0)]))]⟩) (by kernel_rfl) ?_
      intro a hS
      obtain ⟨hq, hm⟩ := hm
      refine op1 (index (e := 3) (k := .i64) T hS (by kernel_rfl) (by kernel_rfl) (by kernel_rfl) (by kernel_rfl) h127 (by kernel_rfl) (by kernel_rfl) hq.1 hq.2 ?_)
      intro A241 a h242 hS
      clear hq
      refine op1 (load1 T hS (by kernel_rfl) (by kernel_rfl) (by kernel_rfl) h242 rfl (by kernel_rfl) ?_)
      intro v243 a hv hS
      cases hv
      refine endP T hS (sp := []) (ks := [1, 4, 5, 8, 9, 10, 12, 13, 57, 58]) (bs := [5, 13]) (sy' := ⟨[(1, I end_), (4, Pt 5 0), (5, V (.slice a118 r114.2.length c119)), (8, V (.slice a105 r104.1.length c106)), (9, V (.slice a108 r104.2.length c109)), (10, V (.slice a115 r114.1.length c116)), (12, Pt 13 0), (13, V (.slice (some ⟨b146, 0, none⟩) ([] : List Int).length 0)), (57, I (gi r124.1 3)), (58, I 0)], [(5, (25, [I 0, I 0, I 0, V (.slice none 0 0)])), (13, (25, [I (gi r124.1 0), I (gi r124.1 1), I (gi r124.1 2), V (.slice none 0 0)]))]⟩) (by kernel_rfl) ?_
      intro a hS
      refine wblock ?_
      obtain ⟨I1, μ1, hm0, hm⟩ := hm
      refine wloop (σ := (List (List Token_Token)) × (List Int) × Int × Int × Int × Int × (List Api_Row)) (fun s a w => ∃ (ρ : Nat → Nat) (χ : Nat → Nat) (a245 : Option Addr) (c246 : Nat) (a252 : Option Addr) (c253 : Nat) (a260 : Option Addr) (c261 : Nat), I1 s.1 s.2.1 s.2.2.1 s.2.2.2.1 s.2.2.2.2.1 s.2.2.2.2.2.1 s.2.2.2.2.2.2 ∧ St Tryd.f11.ntmps ⟨[(1, I end_), (4, Pt 5 0), (5, V (.slice a245 s.1.length c246)), (8, V (.slice a105 r104.1.length c106)), (9, V (.slice a108 r104.2.length c109)), (10, V (.slice a115 r114.1.length c116)), (12, Pt 13 0), (13, V (.slice a252 s.2.1.length c253)), (57, I (gi r124.1 3)), (58, I s.2.2.1)], [(5, (25, [I 0, I 0, I 0, V (.slice none 0 0)])), (13, (25, [I s.2.2.2.1, I s.2.2.2.2.1, I s.2.2.2.2.2.1, V (.slice a260 s.2.2.2.2.2.2.length c261)]))]⟩ ρ a w χ ∧ Old w0 χ0 w χ ∧ RS (tSlice tToken_Token) w χ a245 s.1 c246 ∧ RS tI w χ a105 r104.1 c106 ∧ RS tI w χ a108 r104.2 c109 ∧ RS tToken_Token w χ a115 r114.1 c116 ∧ OS tI 3 w χ 1014 a252 s.2.1 c253 ∧ OS tApi_Row 66 w χ 1089 a260 s.2.2.2.2.2.2 c261) (fun s => μ1 s.1 s.2.1 s.2.2.1 s.2.2.2.1 s.2.2.2.2.1 s.2.2.2.2.2.1 s.2.2.2.2.2.2) (⟨r114.2, ([] : List Int), 0, gi r124.1 0, gi r124.1 1, gi r124.1 2, []⟩) ?_ ?_
      · exact ⟨ρ, _, a118, c119, (some ⟨b146, 0, none⟩), 0, none, 0, hm0, hS.sel [1, 4, 5, 8, 9, 10, 12, 13, 57, 58] [5, 13] (by kernel_rfl), hO, h120, h107, h110, h117, h149, (OS.nil _ _ _ _ _)⟩
      · rintro ⟨rest_244, places_251, x_255, x_256, x_257, x_258, x_259⟩ a w345 ⟨ρ, χ344, a245, c246, a252, c253, a260, c261, hI, hS, hO, h247, h248, h249, h250, h254, h262⟩
        replace hm := hm rest_244 places_251 x_255 x_256 x_257 x_258 x_259 hI
        clear hI hm0
        refine regP T hS (sp := []) (ks := [1, 4, 5, 8, 9, 10, 12, 13, 57, 58, 59]) (bs := [5, 13]) (sy' := ⟨[(1, I end_), (4, Pt 5 0), (5, V (.slice a245 rest_244.length c246)), (8, V (.slice a105 r104.1.length c106)), (9, V (.slice a108 r104.2.length c109)), (10, V (.slice a115 r114.1.length c116)), (12, Pt 13 0), (13, V (.slice a252 places_251.length c253)), (57, I (gi r124.1 3)), (58, I x_255), (59, B (decide (x_255 < (gi r124.1 3))))], [(5, (25, [I 0, I 0, I 0, V (.slice none 0 0)])), (13, (25, [I x_256, I x_257, I x_258, V (.slice a260 x_259.length c261)]))]⟩) (by kernel_rfl) ?_
        intro a hS
        refine wseq ?_
        refine wcond hS (b := decide (x_255 < (gi r124.1 3))) (by kernel_rfl) (fun hb => ?_) (fun hb => ?_)
        · replace hm := hm.1 hb
          refine wskip ?_
          refine wseq ?_
          refine wblock ?_
          refine regO ?_
          refine opsP T hS 1 (sp := []) (ks := [1, 4, 8, 9, 10, 12, 13, 57, 58, 61]) (bs := [5, 13]) (sy' := ⟨[(1, I end_), (4, Pt 5 0), (8, V (.slice a105 r104.1.length c106)), (9, V (.slice a108 r104.2.length c109)), (10, V (.slice a115 r114.1.length c116)), (12, Pt 13 0), (13, V (.slice a252 places_251.length c253)), (57, I (gi r124.1 3)), (58, I x_255), (61, V (.slice a245 rest_244.length c246))], [(5, (25, [I 0, I 0, I 0, V (.slice none 0 0)])), (13, (25, [I x_256, I x_257, I x_258, V (.slice a260 x_259.length c261)]))]⟩) (by kernel_rfl) ?_
          intro a hS
          refine op1 (call hS (by kernel_rfl) (by kernel_rfl) hb26 (by kernel_rfl) (fun _ _ => rfl) (k26 _ _ rest_244 a245 c246 h247) ?_)
          intro v263 a w264 χ265 hE hp hS
          replace hO := hO.mv hE rfl rfl
          replace h247 := h247.mv hE rfl
          replace h248 := h248.mv hE rfl
          replace h249 := h249.mv hE rfl
          replace h250 := h250.mv hE rfl
          replace h254 := h254.mv hE rfl rfl
          replace h262 := h262.mv hE rfl rfl
          clear hE
          obtain ⟨a267, c268, a270, c271, hp, h269, h272⟩ := hp
          obtain ⟨r266, hr⟩ : ∃ r, objtext_next rest_244 = r := ⟨_, rfl⟩
          replace hm := hm r266 hr
          rw [hr] at hp h269 h272
          clear hr
          subst hp
          replace hm := hm (h269.sm (by kernel_rfl))
          replace hm := hm (h272.sm (by kernel_rfl))
          refine endP T hS (sp := []) (ks := [1, 4, 8, 9, 10, 12, 13, 14, 15, 57, 58]) (bs := [5, 13]) (sy' := ⟨[(1, I end_), (4, Pt 5 0), (8, V (.slice a105 r104.1.length c106)), (9, V (.slice a108 r104.2.length c109)), (10, V (.slice a115 r114.1.length c116)), (12, Pt 13 0), (13, V (.slice a252 places_251.length c253)), (14, V (.slice a267 r266.1.length c268)), (15, V (.slice a270 r266.2.length c271)), (57, I (gi r124.1 3)), (58, I x_255)], [(5, (25, [I 0, I 0, I 0, V (.slice none 0 0)])), (13, (25, [I x_256, I x_257, I x_258, V (.slice a260 x_259.length c261)]))]⟩) (by kernel_rfl) ?_
          intro a hS
          refine regP T hS (sp := []) (ks := [1, 4, 5, 8, 9, 10, 12, 13, 14, 57, 58]) (bs := [5, 13]) (sy' := ⟨[(1, I end_), (4, Pt 5 0), (5, V (.slice a270 r266.2.length c271)), (8, V (.slice a105 r104.1.length c106)), (9, V (.slice a108 r104.2.length c109)), (10, V (.slice a115 r114.1.length c116)), (12, Pt 13 0), (13, V (.slice a252 places_251.length c253)), (14, V (.slice a267 r266.1.length c268)), (57, I (gi r124.1 3)), (58, I x_255)], [(5, (25, [I 0, I 0, I 0, V (.slice none 0 0)])), (13, (25, [I x_256, I x_257, I x_258, V (.slice a260 x_259.length c261)]))]⟩) (by kernel_rfl) ?_
          intro a hS
          refine regO ?_
          refine opsP T hS 4 (sp := []) (ks := [1, 4, 5, 8, 9, 10, 12, 13, 14, 57, 58, 67, 68, 69, 70]) (bs := [5, 13]) (sy' := ⟨[(1, I end_), (4, Pt 5 0), (5, V (.slice a270 r266.2.length c271)), (8, V (.slice a105 r104.1.length c106)), (9, V (.slice a108 r104.2.length c109)), (10, V (.slice a115 r114.1.length c116)), (12, Pt 13 0), (13, V (.slice a252 places_251.length c253)), (14, V (.slice a267 r266.1.length c268)), (57, I (gi r124.1 3)), (58, I x_255), (67, V (.slice a267 r266.1.length c268)), (68, V (.slice a105 r104.1.length c106)), (69, V (.slice a108 r104.2.length c109)), (70, I end_)], [(5, (25, [I 0, I 0, I 0, V (.slice none 0 0)])), (13, (25, [I x_256, I x_257, I x_258, V (.slice a260 x_259.length c261)]))]⟩) (by kernel_rfl) ?_
          intro a hS
          obtain ⟨hq, hm⟩ := hm
          refine op1 (call hS (by kernel_rfl) (by kernel_rfl) hb21 (by kernel_rfl) (fun _ _ => rfl) (k21 _ _ r266.1 ([114, 111, 119] : List UInt8) r104.1 r104.2 end_ a267 c268 a105 c106 a108 c109 hq h269 h248 h249) ?_)
          intro v273 a w274 χ275 hE hp hS
          clear hq
          replace hO := hO.mv hE rfl rfl
          replace h248 := h248.mv hE rfl
          replace h249 := h249.mv hE rfl
          replace h250 := h250.mv hE rfl
          replace h254 := h254.mv hE rfl rfl
          replace h262 := h262.mv hE rfl rfl
          replace h269 := h269.mv hE rfl
          replace h272 := h272.mv hE rfl
          clear hE
          obtain ⟨a277, c278, hp, h279⟩ := hp
          obtain ⟨r276, hr⟩ : ∃ r, objtext_Numbers r266.1 ([114, 111, 119] : List UInt8) r104.1 r104.2 end_ = r := ⟨_, rfl⟩
          replace hm := hm r276 hr
          rw [hr] at hp h279
          clear hr
          subst hp
          replace hm := hm (h279.sm (by kernel_rfl))
          refine endP T hS (sp := []) (ks := [1, 4, 5, 8, 9, 10, 12, 13, 14, 16, 17, 18, 57, 58]) (bs := [5, 13]) (sy' := ⟨[(1, I end_), (4, Pt 5 0), (5, V (.slice a270 r266.2.length c271)), (8, V (.slice a105 r104.1.length c106)), (9, V (.slice a108 r104.2.length c109)), (10, V (.slice a115 r114.1.length c116)), (12, Pt 13 0), (13, V (.slice a252 places_251.length c253)), (14, V (.slice a267 r266.1.length c268)), (16, V (.slice a277 r276.1.length c278)), (17, I r276.2.1), (18, I r276.2.2), (57, I (gi r124.1 3)), (58, I x_255)], [(5, (25, [I 0, I 0, I 0, V (.slice none 0 0)])), (13, (25, [I x_256, I x_257, I x_258, V (.slice a260 x_259.length c261)]))]⟩) (by kernel_rfl) ?_
          intro a hS
          refine wseq ?_
          refine regP T hS (sp := []) (ks := [1, 4, 5, 8, 9, 10, 12, 13, 14, 16, 17, 18, 57, 58, 76]) (bs := [5, 13]) (sy' := ⟨[(1, I end_), (4, Pt 5 0), (5, V (.slice a270 r266.2.length c271)), (8, V (.slice a105 r104.1.length c106)), (9, V (.slice a108 r104.2.length c109)), (10, V (.slice a115 r114.1.length c116)), (12, Pt 13 0), (13, V (.slice a252 places_251.length c253)), (14, V (.slice a267 r266.1.length c268)), (16, V (.slice a277 r276.1.length c278)), (17, I r276.2.1), (18, I r276.2.2), (57, I (gi r124.1 3)), (58, I x_255), (76, B (r276.2.2 != 0))], [(5, (25, [I 0, I 0, I 0, V (.slice none 0 0)])), (13, (25, [I x_256, I x_257, I x_258, V (.slice a260 x_259.length c261)]))]⟩) (by kernel_rfl) ?_
          intro a hS
          refine wcond hS (b := (r276.2.2 != 0)) (by kernel_rfl) (fun hb => ?_) (fun hb => ?_)
          · replace hm := hm.1 hb
            refine regM T hS (sp := []) (ks := [4, 5, 6, 7]) (bs := [5]) (sy' := ⟨[(4, Pt 5 0), (5, V (.slice none 0 0)), (6, I r276.2.1), (7, I r276.2.2)], [(5, (25, [I 0, I 0, I 0, V (.slice none 0 0)]))]⟩) (by kernel_rfl) ?_
            intro ρ a w280 χ281 hS hE hr
            replace hO := hO.mv hE rfl rfl
            clear hE hr
            refine wret ?_
            exact fin T hS hO (fun c => c) rfl (r := [.agg #[.int .i64 0, .int .i64 0, .int .i64 0, .slice none 0 0], .slice none 0 0, .int .i64 r276.2.1, .int .i64 r276.2.2]) (by kernel_rfl) (fun χ' hM hC => ⟨((⟨0, 0, 0, []⟩ : Api_Object), [], r276.2.1, r276.2.2), hm, none, 0, none, 0, rfl, RS.empty _ _ _, RS.empty _ _ _⟩)
          · replace hm := hm.2 hb
            refine wskip ?_
            refine regO ?_
            refine opsP T hS 2 (sp := []) (ks := [1, 4, 5, 8, 9, 10, 12, 13, 16, 57, 58, 80, 81]) (bs := [5, 13]) (sy' := ⟨[(1, I end_), (4, Pt 5 0), (5, V (.slice a270 r266.2.length c271)), (8, V (.slice a105 r104.1.length c106)), (9, V (.slice a108 r104.2.length c109)), (10, V (.slice a115 r114.1.length c116)), (12, Pt 13 0), (13, V (.slice a252 places_251.length c253)), (16, V (.slice a277 r276.1.length c278)), (57, I (gi r124.1 3)), (58, I x_255), (80, V (.slice a252 places_251.length c253)), (81, V (.slice a267 r266.1.length c268))], [(5, (25, [I 0, I 0, I 0, V (.slice none 0 0)])), (13, (25, [I x_256, I x_257, I x_258, V (.slice a260 x_259.length c261)]))]⟩) (by kernel_rfl) ?_
            intro a hS
            obtain ⟨hq, hm⟩ := hm
            refine op1 (index (e := 60) (k := .i64) T hS (by kernel_rfl) (by kernel_rfl) (by kernel_rfl) (by kernel_rfl) h269 (by kernel_rfl) (by kernel_rfl) hq.1 hq.2 ?_)
            intro A282 a h283 hS
            clear hq
            refine op1 (fieldA (off := 1) (fsz := 1) (ft := 3) (TF := tI) (y := (gi r266.1 0).At) T hS (by kernel_rfl) (by kernel_rfl) (by kernel_rfl) h283 (by kernel_rfl) (by kernel_rfl) (by kernel_rfl) (fun cs h => Token_Token_f1 h) ?_)
            intro A284 a h285 hS
            refine op1 (load1 T hS (by kernel_rfl) (by kernel_rfl) (by kernel_rfl) h285 rfl (by kernel_rfl) ?_)
            intro v286 a hv hS
            cases hv
            refine op1 (lit (E := 3) (col := 0) (T := tI) (vals := [.int .i64 ((gi r266.1 0).At)]) (ys := [(gi r266.1 0).At]) T hS (by kernel_rfl) (by kernel_rfl) (by kernel_rfl) (by kernel_rfl) (by exact ⟨rfl, trivial⟩) rfl (by kernel_rfl) (by kernel_rfl) (by kernel_rfl) (by kernel_rfl) ?_)
            intro b287 a w288 χ289 hE h290 hN hS
            clear hN
            replace hO := hO.mv hE rfl rfl
            replace h248 := h248.mv hE rfl
            replace h249 := h249.mv hE rfl
            replace h250 := h250.mv hE rfl
            replace h254 := h254.mv hE rfl rfl
            replace h262 := h262.mv hE rfl rfl
            replace h269 := h269.mv hE rfl
            replace h272 := h272.mv hE rfl
            replace h279 := h279.mv hE rfl
            replace h283 := h283.mv hE rfl
            replace h285 := h285.mv hE rfl
            clear hE
            replace h290 := h290.rs0
            obtain ⟨hq, hm⟩ := hm
            obtain ⟨news, hN⟩ := h290.src
            refine op1 (append (E := 3) (T := tI) (col := 1014) (xs := places_251) T hS (by kernel_rfl) (by kernel_rfl) (by kernel_rfl) (by kernel_rfl) h254 hN (by kernel_rfl) (by kernel_rfl) (by kernel_rfl) (by kernel_rfl) hq ?_)
            intro a294 c295 a w291 χ292 hE h293 hS
            clear hq hN
            clear h254
            replace hO := hO.mv hE rfl rfl
            replace h248 := h248.mv hE rfl
            replace h249 := h249.mv hE rfl
            replace h250 := h250.mv hE rfl
            replace h262 := h262.mv hE rfl rfl
            replace h269 := h269.mv hE rfl
            replace h272 := h272.mv hE rfl
            replace h279 := h279.mv hE rfl
            replace h283 := h283.mv hE rfl
            replace h285 := h285.mv hE rfl
            replace h290 := h290.mv hE rfl
            clear hE
            refine endP T hS (sp := []) (ks := [1, 4, 5, 8, 9, 10, 12, 13, 16, 57, 58]) (bs := [5, 13]) (sy' := ⟨[(1, I end_), (4, Pt 5 0), (5, V (.slice a270 r266.2.length c271)), (8, V (.slice a105 r104.1.length c106)), (9, V (.slice a108 r104.2.length c109)), (10, V (.slice a115 r114.1.length c116)), (12, Pt 13 0), (13, V (.slice a294 (places_251 ++ [(gi r266.1 0).At]).length c295)), (16, V (.slice a277 r276.1.length c278)), (57, I (gi r124.1 3)), (58, I x_255)], [(5, (25, [I 0, I 0, I 0, V (.slice none 0 0)])), (13, (25, [I x_256, I x_257, I x_258, V (.slice a260 x_259.length c261)]))]⟩) (by kernel_rfl) ?_
            intro a hS
            refine drawnX [5] mixed hS ?_
            intro w296 χ297 hS hE hD hH
            replace hO := hO.mv hE rfl rfl
            replace h248 := h248.mv hE rfl
            replace h249 := h249.mv hE rfl
            replace h250 := h250.mv hE rfl
            replace h262 := h262.mv hE rfl rfl
            replace h272 := h272.mv hE rfl
            replace h279 := h279.mv hE rfl
            replace h293 := h293.mv hE rfl rfl
            clear hE
            refine take T [0, 2, 5, 8, 11] [5] [1, 4, 5, 8, 9, 10, 12, 13, 57, 58, 87, 89, 92, 95, 98] hS (by kernel_rfl) (by kernel_rfl) (by kernel_rfl) hH (listed' := #[true, false, true, false, false, true, false, false, true, false, false, true, false, false, false, false, false, false, false]) (fuel := 14) (sy' := ⟨[(1, I end_), (4, Pt 5 0), (5, V (.slice a270 r266.2.length c271)), (8, V (.slice a105 r104.1.length c106)), (9, V (.slice a108 r104.2.length c109)), (10, V (.slice a115 r114.1.length c116)), (12, Pt 13 0), (13, V (.slice a294 (places_251 ++ [(gi r266.1 0).At]).length c295)), (57, I (gi r124.1 3)), (58, I x_255), (87, Pt 13 3), (89, V (.slice a277 r276.1.length c278)), (92, V (.slice a277 r276.1.length c278)), (95, V (.slice a277 r276.1.length c278)), (98, V (.slice a277 r276.1.length c278))], [(5, (25, [I 0, I 0, I 0, V (.slice none 0 0)])), (13, (25, [I x_256, I x_257, I x_258, V (.slice a260 x_259.length c261)]))]⟩) (by kernel_rfl) (by rfl) ?_
            intro a hS
            obtain ⟨hq, hm⟩ := hm
            refine dindex (e := 3) (k := .i64) T 3 hS (by kernel_rfl) (by kernel_rfl) (by kernel_rfl) (by rfl) (by kernel_rfl) hH (by kernel_rfl) (by kernel_rfl) h279 (by kernel_rfl) (by kernel_rfl) hq.1 hq.2 ?_
            intro A298 a h299 hS
            clear hq
            have h299b := h299.here
            refine dload1 T 4 hS (by kernel_rfl) (by kernel_rfl) (by kernel_rfl) (by rfl) (by kernel_rfl) hH (by kernel_rfl) h299 h299b rfl (by kernel_rfl) ?_
            intro v300 a hv hS
            cases hv
            obtain ⟨hq, hm⟩ := hm
            refine dindex (e := 3) (k := .i64) T 6 hS (by kernel_rfl) (by kernel_rfl) (by kernel_rfl) (by rfl) (by kernel_rfl) hH (by kernel_rfl) (by kernel_rfl) h279 (by kernel_rfl) (by kernel_rfl) hq.1 hq.2 ?_
            intro A301 a h302 hS
            clear hq
            have h302b := h302.here
            refine dload1 T 7 hS (by kernel_rfl) (by kernel_rfl) (by kernel_rfl) (by rfl) (by kernel_rfl) hH (by kernel_rfl) h302 h302b rfl (by kernel_rfl) ?_
            intro v303 a hv hS
            cases hv
            obtain ⟨hq, hm⟩ := hm
            refine dindex (e := 3) (k := .i64) T 9 hS (by kernel_rfl) (by kernel_rfl) (by kernel_rfl) (by rfl) (by kernel_rfl) hH (by kernel_rfl) (by kernel_rfl) h279 (by kernel_rfl) (by kernel_rfl) hq.1 hq.2 ?_
            intro A304 a h305 hS
            clear hq
            have h305b := h305.here
            refine dload1 T 10 hS (by kernel_rfl) (by kernel_rfl) (by kernel_rfl) (by rfl) (by kernel_rfl) hH (by kernel_rfl) h305 h305b rfl (by kernel_rfl) ?_
            intro v306 a hv hS
            cases hv
            obtain ⟨hq, hm⟩ := hm
            refine dindex (e := 3) (k := .i64) T 12 hS (by kernel_rfl) (by kernel_rfl) (by kernel_rfl) (by rfl) (by kernel_rfl) hH (by kernel_rfl) (by kernel_rfl) h279 (by kernel_rfl) (by kernel_rfl) hq.1 hq.2 ?_
            intro A307 a h308 hS
            clear hq
            have h308b := h308.here
            refine dload1 T 13 hS (by kernel_rfl) (by kernel_rfl) (by kernel_rfl) (by rfl) (by kernel_rfl) hH (by kernel_rfl) h308 h308b rfl (by kernel_rfl) ?_
            intro v309 a hv hS
            cases hv
            refine take T [14] [5] [1, 4, 5, 8, 9, 10, 12, 13, 57, 58, 87, 101] hS (by kernel_rfl) (by kernel_rfl) (by kernel_rfl) hH (listed' := #[true, false, true, true, true, true, true, true, true, true, true, true, true, true, true, false, false, false, false]) (fuel := 5) (sy' := ⟨[(1, I end_), (4, Pt 5 0), (5, V (.slice a270 r266.2.length c271)), (8, V (.slice a105 r104.1.length c106)), (9, V (.slice a108 r104.2.length c109)), (10, V (.slice a115 r114.1.length c116)), (12, Pt 13 0), (13, V (.slice a294 (places_251 ++ [(gi r266.1 0).At]).length c295)), (57, I (gi r124.1 3)), (58, I x_255), (87, Pt 13 3), (101, V (.agg #[.int .i64 (gi r276.1 0), .int .i64 (gi r276.1 1), .int .i64 (gi r276.1 2), .int .i64 (gi r276.1 3)]))], [(5, (25, [I 0, I 0, I 0, V (.slice none 0 0)])), (13, (25, [I x_256, I x_257, I x_258, V (.slice a260 x_259.length c261)]))]⟩) (by kernel_rfl) (by rfl) ?_
            intro a hS
            refine drcut (fun a w => ∃ (χ : Nat → Nat) (a325 : Option Addr) (c326 : Nat), St Tryd.f11.ntmps ⟨[(1, I end_), (4, Pt 5 0), (5, V (.slice a270 r266.2.length c271)), (8, V (.slice a105 r104.1.length c106)), (9, V (.slice a108 r104.2.length c109)), (10, V (.slice a115 r114.1.length c116)), (12, Pt 13 0), (13, V (.slice a294 (places_251 ++ [(gi r266.1 0).At]).length c295)), (57, I (gi r124.1 3)), (58, I x_255), (88, V (.slice a260 x_259.length c261)), (102, V (.slice a325 [(⟨gi r276.1 0, gi r276.1 1, gi r276.1 2, gi r276.1 3⟩ : Api_Row)].length c326))], [(5, (25, [I 0, I 0, I 0, V (.slice none 0 0)])), (13, (25, [I x_256, I x_257, I x_258, V (.slice a260 x_259.length c261)]))]⟩ ρ a w χ ∧ Old w0 χ0 w χ ∧ M0 w296 χ297 w χ ∧ Hold w296 χ297 (filt [5] ⟨[(1, I end_), (4, Pt 5 0), (5, V (.slice a270 r266.2.length c271)), (8, V (.slice a105 r104.1.length c106)), (9, V (.slice a108 r104.2.length c109)), (10, V (.slice a115 r114.1.length c116)), (12, Pt 13 0), (13, V (.slice a294 (places_251 ++ [(gi r266.1 0).At]).length c295)), (16, V (.slice a277 r276.1.length c278)), (57, I (gi r124.1 3)), (58, I x_255)], [(5, (25, [I 0, I 0, I 0, V (.slice none 0 0)])), (13, (25, [I x_256, I x_257, I x_258, V (.slice a260 x_259.length c261)]))]⟩) ρ w ∧ RS (tSlice tToken_Token) w χ a270 r266.2 c271 ∧ RS tI w χ a105 r104.1 c106 ∧ RS tI w χ a108 r104.2 c109 ∧ RS tToken_Token w χ a115 r114.1 c116 ∧ OS tI 3 w χ 1014 a294 (places_251 ++ [(gi r266.1 0).At]) c295 ∧ OS tApi_Row 66 w χ 1089 a260 x_259 c261 ∧ RS tApi_Row w χ a325 [(⟨gi r276.1 0, gi r276.1 1, gi r276.1 2, gi r276.1 3⟩ : Api_Row)] c326) #[true, true, true, true, true, true, true, true, true, true, true, true, true, true, true, true, false, false, false] 3 ?_ (fun H => ?_)
            · rintro a w336 ⟨χ335, a325, c326, hS, hO, hD, hH, h318, h319, h320, h321, h322, h323, h324⟩
              obtain ⟨hq, hm⟩ := hm
              obtain ⟨news, hN⟩ := h324.src
              refine only 16 (by kernel_rfl) (by rfl) (append (E := 66) (T := tApi_Row) (col := 1089) (xs := x_259) T hS (by kernel_rfl) (by kernel_rfl) (by kernel_rfl) (by kernel_rfl) h323 hN (by kernel_rfl) (by kernel_rfl) (by kernel_rfl) (by kernel_rfl) hq ?_)
              intro a340 c341 a w337 χ338 hE h339 hS
              clear hq hN
              clear h323
              replace hO := hO.mv hE rfl rfl
              replace hD := hD.ev hE rfl
              replace h318 := h318.mv hE rfl
              replace h319 := h319.mv hE rfl
              replace h320 := h320.mv hE rfl
              replace h321 := h321.mv hE rfl
              replace h322 := h322.mv hE rfl rfl
              replace h324 := h324.mv hE rfl
              clear hE
              replace hS := hS.sel [1, 4, 5, 8, 9, 10, 12, 13, 57, 58, 102, 103] [5, 13] (sy' := ⟨[(1, I end_), (4, Pt 5 0), (5, V (.slice a270 r266.2.length c271)), (8, V (.slice a105 r104.1.length c106)), (9, V (.slice a108 r104.2.length c109)), (10, V (.slice a115 r114.1.length c116)), (12, Pt 13 0), (13, V (.slice a294 (places_251 ++ [(gi r266.1 0).At]).length c295)), (57, I (gi r124.1 3)), (58, I x_255), (102, V (.slice a325 [(⟨gi r276.1 0, gi r276.1 1, gi r276.1 2, gi r276.1 3⟩ : Api_Row)].length c326)), (103, V (.slice a340 (x_259 ++ [(⟨gi r276.1 0, gi r276.1 1, gi r276.1 2, gi r276.1 3⟩ : Api_Row)]).length c341))], [(5, (25, [I 0, I 0, I 0, V (.slice none 0 0)])), (13, (25, [I x_256, I x_257, I x_258, V (.slice a260 x_259.length c261)]))]⟩) (by kernel_rfl)
              refine andH (Hold.of hS (bks := [5]) (by kernel_rfl) hD) ?_
              intro hH
              refine take T [17] [5] [1, 4, 5, 8, 9, 10, 12, 13, 57, 58, 103, 104] hS (by kernel_rfl) (by kernel_rfl) (by kernel_rfl) hH (listed' := #[true, true, true, true, true, true, true, true, true, true, true, true, true, true, true, true, true, true, false]) (fuel := 1) (sy' := ⟨[(1, I end_), (4, Pt 5 0), (5, V (.slice a270 r266.2.length c271)), (8, V (.slice a105 r104.1.length c106)), (9, V (.slice a108 r104.2.length c109)), (10, V (.slice a115 r114.1.length c116)), (12, Pt 13 0), (13, V (.slice a294 (places_251 ++ [(gi r266.1 0).At]).length c295)), (57, I (gi r124.1 3)), (58, I x_255), (103, V (.slice a340 (x_259 ++ [(⟨gi r276.1 0, gi r276.1 1, gi r276.1 2, gi r276.1 3⟩ : Api_Row)]).length c341)), (104, Pt 13 3)], [(5, (25, [I 0, I 0, I 0, V (.slice none 0 0)])), (13, (25, [I x_256, I x_257, I x_258, V (.slice a260 x_259.length c261)]))]⟩) (by kernel_rfl) (by rfl) ?_
              intro a hS
              replace hS := hS.sel [1, 4, 5, 8, 9, 10, 12, 13, 57, 58, 103, 104] [5, 13] (sy' := ⟨[(1, I end_), (4, Pt 5 0), (5, V (.slice a270 r266.2.length c271)), (8, V (.slice a105 r104.1.length c106)), (9, V (.slice a108 r104.2.length c109)), (10, V (.slice a115 r114.1.length c116)), (12, Pt 13 0), (13, V (.slice a294 (places_251 ++ [(gi r266.1 0).At]).length c295)), (57, I (gi r124.1 3)), (58, I x_255), (103, V (.slice a340 (x_259 ++ [(⟨gi r276.1 0, gi r276.1 1, gi r276.1 2, gi r276.1 3⟩ : Api_Row)]).length c341)), (104, Pt 13 3)], [(5, (25, [I 0, I 0, I 0, V (.slice none 0 0)])), (13, (25, [I x_256, I x_257, I x_258, V (.slice a260 x_259.length c261)]))]⟩) (by kernel_rfl)
              refine only 18 (by kernel_rfl) (by rfl) (store1 T hS (by kernel_rfl) (by kernel_rfl) (sy' := ⟨[(1, I end_), (4, Pt 5 0), (5, V (.slice a270 r266.2.length c271)), (8, V (.slice a105 r104.1.length c106)), (9, V (.slice a108 r104.2.length c109)), (10, V (.slice a115 r114.1.length c116)), (12, Pt 13 0), (13, V (.slice a294 (places_251 ++ [(gi r266.1 0).At]).length c295)), (57, I (gi r124.1 3)), (58, I x_255), (103, V (.slice a340 (x_259 ++ [(⟨gi r276.1 0, gi r276.1 1, gi r276.1 2, gi r276.1 3⟩ : Api_Row)]).length c341)), (104, Pt 13 3)], [(13, (25, [I x_256, I x_257, I x_258, V (.slice a340 (x_259 ++ [(⟨gi r276.1 0, gi r276.1 1, gi r276.1 2, gi r276.1 3⟩ : Api_Row)]).length c341)])), (5, (25, [I 0, I 0, I 0, V (.slice none 0 0)])), (13, (25, [I x_256, I x_257, I x_258, V (.slice a260 x_259.length c261)]))]⟩) (by kernel_rfl) ?_)
              intro a w342 χ343 hS hE
              replace hO := hO.mv hE rfl rfl
              replace hD := hD.ev hE rfl
              replace h318 := h318.mv hE rfl
              replace h319 := h319.mv hE rfl
              replace h320 := h320.mv hE rfl
              replace h321 := h321.mv hE rfl
              replace h322 := h322.mv hE rfl rfl
              replace h324 := h324.mv hE rfl
              replace h339 := h339.mv hE rfl rfl
              clear hE
              replace hS := hS.sel [1, 4, 5, 8, 9, 10, 12, 13, 57, 58, 103, 104] [5, 13] (sy' := ⟨[(1, I end_), (4, Pt 5 0), (5, V (.slice a270 r266.2.length c271)), (8, V (.slice a105 r104.1.length c106)), (9, V (.slice a108 r104.2.length c109)), (10, V (.slice a115 r114.1.length c116)), (12, Pt 13 0), (13, V (.slice a294 (places_251 ++ [(gi r266.1 0).At]).length c295)), (57, I (gi r124.1 3)), (58, I x_255), (103, V (.slice a340 (x_259 ++ [(⟨gi r276.1 0, gi r276.1 1, gi r276.1 2, gi r276.1 3⟩ : Api_Row)]).length c341)), (104, Pt 13 3)], [(5, (25, [I 0, I 0, I 0, V (.slice none 0 0)])), (13, (25, [I x_256, I x_257, I x_258, V (.slice a340 (x_259 ++ [(⟨gi r276.1 0, gi r276.1 1, gi r276.1 2, gi r276.1 3⟩ : Api_Row)]).length c341)]))]⟩) (by kernel_rfl)
              refine andH (Hold.of hS (bks := [5]) (by kernel_rfl) hD) ?_
              intro hH
              refine drawnDone (by kernel_rfl) ?_
              clear hD hH
              replace hS := hS.sel [1, 4, 5, 8, 9, 10, 12, 13, 57, 58] [5, 13] (sy' := ⟨[(1, I end_), (4, Pt 5 0), (5, V (.slice a270 r266.2.length c271)), (8, V (.slice a105 r104.1.length c106)), (9, V (.slice a108 r104.2.length c109)), (10, V (.slice a115 r114.1.length c116)), (12, Pt 13 0), (13, V (.slice a294 (places_251 ++ [(gi r266.1 0).At]).length c295)), (57, I (gi r124.1 3)), (58, I x_255)], [(5, (25, [I 0, I 0, I 0, V (.slice none 0 0)])), (13, (25, [I x_256, I x_257, I x_258, V (.slice a340 (x_259 ++ [(⟨gi r276.1 0, gi r276.1 1, gi r276.1 2, gi r276.1 3⟩ : Api_Row)]).length c341)]))]⟩) (by kernel_rfl)
              refine region (endP T hS (sp := []) (ks := [1, 4, 5, 8, 9, 10, 12, 13, 57, 58]) (bs := [5, 13]) (sy' := ⟨[(1, I end_), (4, Pt 5 0), (5, V (.slice a270 r266.2.length c271)), (8, V (.slice a105 r104.1.length c106)), (9, V (.slice a108 r104.2.length c109)), (10, V (.slice a115 r114.1.length c116)), (12, Pt 13 0), (13, V (.slice a294 (places_251 ++ [(gi r266.1 0).At]).length c295)), (57, I (gi r124.1 3)), (58, I (IntKind.i64.wrap (x_255 + 1)))], [(5, (25, [I 0, I 0, I 0, V (.slice none 0 0)])), (13, (25, [I x_256, I x_257, I x_258, V (.slice a340 (x_259 ++ [(⟨gi r276.1 0, gi r276.1 1, gi r276.1 2, gi r276.1 3⟩ : Api_Row)]).length c341)]))]⟩) (by kernel_rfl) ?_)
              intro a hS
              exact ⟨⟨r266.2, places_251 ++ [(gi r266.1 0).At], IntKind.i64.wrap (x_255 + 1), x_256, x_257, x_258, x_259 ++ [(⟨gi r276.1 0, gi r276.1 1, gi r276.1 2, gi r276.1 3⟩ : Api_Row)]⟩, ⟨ρ, _, a270, c271, a294, c295, a340, c341, hm.1, hS.sel [1, 4, 5, 8, 9, 10, 12, 13, 57, 58] [5, 13] (by kernel_rfl), hO, h318, h319, h320, h321, h322, h339⟩, hm.2⟩
            · clear hm
              refine anyOf (is := [1, 15]) (by kernel_rfl) (by decide) ?_
              intro i hi
              rcases mem2 hi with rfl | rfl
              · refine oneOp (by rfl) (plain1 T hS (by kernel_rfl) (by kernel_rfl) (by kernel_rfl) (sv := V (.slice a260 x_259.length c261)) (by kernel_rfl) ?_)
                intro a hS
                refine andH (Hold.of hS (bks := [5]) (by kernel_rfl) hD) ?_
                intro hH
                refine only 15 (by kernel_rfl) (by rfl) (lit (E := 66) (col := 0) (T := tApi_Row) (vals := [.agg #[.int .i64 (gi r276.1 0), .int .i64 (gi r276.1 1), .int .i64 (gi r276.1 2), .int .i64 (gi r276.1 3)]]) (ys := [(⟨gi r276.1 0, gi r276.1 1, gi r276.1 2, gi r276.1 3⟩ : Api_Row)]) T hS (by kernel_rfl) (by kernel_rfl) (by kernel_rfl) (by kernel_rfl) (by exact ⟨rfl, trivial⟩) rfl (by kernel_rfl) (by kernel_rfl) (by kernel_rfl) (by kernel_rfl) ?_)
                intro b327 a w328 χ329 hE h330 hN hS
                clear hN
                replace hO := hO.mv hE rfl rfl
                replace hD := hD.ev hE rfl
                replace h248 := h248.mv hE rfl
                replace h249 := h249.mv hE rfl
                replace h250 := h250.mv hE rfl
                replace h262 := h262.mv hE rfl rfl
                replace h272 := h272.mv hE rfl
                replace h279 := h279.mv hE rfl
                replace h293 := h293.mv hE rfl rfl
                replace h299 := h299.mv hE rfl
                replace h302 := h302.mv hE rfl
                replace h305 := h305.mv hE rfl
                replace h308 := h308.mv hE rfl
                clear hE
                replace h330 := h330.rs0
                refine andH (Hold.of hS (bks := [5]) (by kernel_rfl) hD) ?_
                intro hH
                exact H _ _ ⟨_, (some ⟨b327, 0, none⟩), 1, hS.sel [1, 4, 5, 8, 9, 10, 12, 13, 57, 58, 88, 102] [5, 13] (by kernel_rfl), hO, hD, hH, h272, h248, h249, h250, h293, h262, h330⟩
              · refine oneOp (by rfl) (lit (E := 66) (col := 0) (T := tApi_Row) (vals := [.agg #[.int .i64 (gi r276.1 0), .int .i64 (gi r276.1 1), .int .i64 (gi r276.1 2), .int .i64 (gi r276.1 3)]]) (ys := [(⟨gi r276.1 0, gi r276.1 1, gi r276.1 2, gi r276.1 3⟩ : Api_Row)]) T hS (by kernel_rfl) (by kernel_rfl) (by kernel_rfl) (by kernel_rfl) (by exact ⟨rfl, trivial⟩) rfl (by kernel_rfl) (by kernel_rfl) (by kernel_rfl) (by kernel_rfl) ?_)
                intro b331 a w332 χ333 hE h334 hN hS
                clear hN
                replace hO := hO.mv hE rfl rfl
                replace hD := hD.ev hE rfl
                replace h248 := h248.mv hE rfl
                replace h249 := h249.mv hE rfl
                replace h250 := h250.mv hE rfl
                replace h262 := h262.mv hE rfl rfl
                replace h272 := h272.mv hE rfl
                replace h279 := h279.mv hE rfl
                replace h293 := h293.mv hE rfl rfl
                replace h299 := h299.mv hE rfl
                replace h302 := h302.mv hE rfl
                replace h305 := h305.mv hE rfl
                replace h308 := h308.mv hE rfl
                clear hE
                replace h334 := h334.rs0
                refine andH (Hold.of hS (bks := [5]) (by kernel_rfl) hD) ?_
                intro hH
                refine only 1 (by kernel_rfl) (by rfl) (plain1 T hS (by kernel_rfl) (by kernel_rfl) (by kernel_rfl) (sv := V (.slice a260 x_259.length c261)) (by kernel_rfl) ?_)
                intro a hS
                refine andH (Hold.of hS (bks := [5]) (by kernel_rfl) hD) ?_
                intro hH
                exact H _ _ ⟨_, (some ⟨b331, 0, none⟩), 1, hS.sel [1, 4, 5, 8, 9, 10, 12, 13, 57, 58, 88, 102] [5, 13] (by kernel_rfl), hO, hD, hH, h272, h248, h249, h250, h293, h262, h334⟩
        · replace hm := hm.2 hb
          refine wexit (by rfl) ?_
          exact ⟨ρ, _, rest_244, places_251, x_256, x_257, x_258, x_259, a245, c246, a252, c253, a260, c261, hm, hS.sel [1, 4, 5, 10, 12, 13] [5, 13] (by kernel_rfl), hO, h247, h250, h254, h262⟩
    · rintro a w347 ⟨ρ, χ346, rest_150, places_155, x_159, x_160, x_161, x_162, a151, c152, a156, c157, a163, c164, hm, hS, hO, h153, h154, h158, h165⟩
      unfold VC11_J1 at hm
      refine wseq ?_
      refine regO ?_
      refine opsP T hS 1 (sp := []) (ks := [1, 4, 5, 10, 12, 13, 107]) (bs := [5, 13]) (sy' := ⟨[(1, I end_), (4, Pt 5 0), (5, V (.slice a151 rest_150.length c152)), (10, V (.slice a115 r114.1.length c116)), (12, Pt 13 0), (13, V (.slice a156 places_155.length c157)), (107, V (.agg #[.int .i64 x_159, .int .i64 x_160, .int .i64 x_161, .slice a163 x_162.length c164]))], [(5, (25, [I 0, I 0, I 0, V (.slice none 0 0)])), (13, (25, [I x_159, I x_160, I x_161, V (.slice a163 x_162.length c164)]))]⟩) (by kernel_rfl) ?_
      intro a hS
      obtain ⟨hq, hm⟩ := hm
      refine op1 (call hS (by kernel_rfl) (by kernel_rfl) hb24 (by kernel_rfl) (fun _ _ => rfl) (Ret.unlend (k24 _ (lend 1089 _) (⟨x_159, x_160, x_161, x_162⟩ : Api_Object) a163 c164 hq h165.lend)) ?_)
      intro v166 a w167 χ168 hE hp hS
      clear hq
      replace hO := hO.mv hE rfl rfl
      replace h153 := h153.mv hE rfl
      replace h154 := h154.mv hE rfl
      replace h158 := h158.mv hE rfl rfl
      replace h165 := h165.mv hE rfl rfl
      clear hE
      obtain ⟨_, hp⟩ := hp
      obtain ⟨r169, hr⟩ : ∃ r, object_Check (⟨x_159, x_160, x_161, x_162⟩ : Api_Object) = r := ⟨_, rfl⟩
      replace hm := hm r169 hr
      rw [hr] at hp
      clear hr
      subst hp
      refine endP T hS (sp := []) (ks := [1, 4, 5, 10, 12, 13, 19, 20]) (bs := [5, 13]) (sy' := ⟨[(1, I end_), (4, Pt 5 0), (5, V (.slice a151 rest_150.length c152)), (10, V (.slice a115 r114.1.length c116)), (12, Pt 13 0), (13, V (.slice a156 places_155.length c157)), (19, I r169.1), (20, I r169.2)], [(5, (25, [I 0, I 0, I 0, V (.slice none 0 0)])), (13, (25, [I x_159, I x_160, I x_161, V (.slice a163 x_162.length c164)]))]⟩) (by kernel_rfl) ?_
      intro a hS
      refine regP T hS (sp := []) (ks := [1, 4, 5, 10, 12, 13, 19, 20, 112]) (bs := [5, 13]) (sy' := ⟨[(1, I end_), (4, Pt 5 0), (5, V (.slice a151 rest_150.length c152)), (10, V (.slice a115 r114.1.length c116)), (12, Pt 13 0), (13, V (.slice a156 places_155.length c157)), (19, I r169.1), (20, I r169.2), (112, B (r169.2 != 0))], [(5, (25, [I 0, I 0, I 0, V (.slice none 0 0)])), (13, (25, [I x_159, I x_160, I x_161, V (.slice a163 x_162.length c164)]))]⟩) (by kernel_rfl) ?_
      intro a hS
      refine wcond hS (b := (r169.2 != 0)) (by kernel_rfl) (fun hb => ?_) (fun hb => ?_)
      · replace hm := hm.1 hb
        replace hS := hS.sel [4, 5, 10, 13, 19, 20] [5] (sy' := ⟨[(4, Pt 5 0), (5, V (.slice a151 rest_150.length c152)), (10, V (.slice a115 r114.1.length c116)), (13, V (.slice a156 places_155.length c157)), (19, I r169.1), (20, I r169.2)], [(5, (25, [I 0, I 0, I 0, V (.slice none 0 0)]))]⟩) (by kernel_rfl)
        refine drawnSX [] mixed hS ?_
        intro w170 χ171 hS hE hD hH
        replace hO := hO.mv hE rfl rfl
        replace h153 := h153.mv hE rfl
        replace h154 := h154.mv hE rfl
        replace h158 := h158.mv hE rfl rfl
        clear hE
        refine take T [0, 1, 6, 8, 12, 9] [] [4, 5, 113, 114, 119, 122, 125] hS (by kernel_rfl) (by kernel_rfl) (by kernel_rfl) hH (listed' := #[true, true, false, false, false, false, true, false, true, true, false, false, true, false, false, false, false]) (fuel := 11) (sy' := ⟨[(4, Pt 5 0), (5, V (.slice a151 rest_150.length c152)), (113, V (.agg #[.int .i64 0, .int .i64 0, .int .i64 0, .slice none 0 0])), (114, V (.slice a115 r114.1.length c116)), (119, V (.slice a156 places_155.length c157)), (122, I (IntKind.i64.wrap (r169.1 + 1))), (125, I r169.2)], [(5, (25, [I 0, I 0, I 0, V (.slice none 0 0)]))]⟩) (by kernel_rfl) (by rfl) ?_
        intro a hS
        obtain ⟨hq, hm⟩ := hm
        refine dindex (e := 60) (k := .i64) T 2 hS (by kernel_rfl) (by kernel_rfl) (by kernel_rfl) (by rfl) (by kernel_rfl) hH (by kernel_rfl) (by kernel_rfl) h154 (by kernel_rfl) (by kernel_rfl) hq.1 hq.2 ?_
        intro A172 a h173 hS
        clear hq
        have h173b := h173.here
        refine dfieldA (off := 1) (fsz := 1) (ft := 3) (TF := tI) (y := (gi r114.1 0).At) 3 T hS (by kernel_rfl) (by kernel_rfl) (by kernel_rfl) (by rfl) (by kernel_rfl) hH (by kernel_rfl) h173 (by kernel_rfl) (by kernel_rfl) (by kernel_rfl) (fun cs h => Token_Token_f1 h) ?_
        intro A174 a h175 hbl hS
        have h175b := h173b
        rw [← hbl] at h175b
        clear hbl
        refine dload1 T 4 hS (by kernel_rfl) (by kernel_rfl) (by kernel_rfl) (by rfl) (by kernel_rfl) hH (by kernel_rfl) h175 h175b rfl (by kernel_rfl) ?_
        intro v176 a hv hS
        cases hv
        refine only 5 (by kernel_rfl) (by rfl) (lit (E := 3) (col := 1119) (T := tI) (vals := [.int .i64 ((gi r114.1 0).At)]) (ys := [(gi r114.1 0).At]) T hS (by kernel_rfl) (by kernel_rfl) (by kernel_rfl) (by kernel_rfl) (by exact ⟨rfl, trivial⟩) rfl (by kernel_rfl) (by kernel_rfl) (by kernel_rfl) (by kernel_rfl) ?_)
        intro b177 a w178 χ179 hE h180 hN hS
        clear hN
        replace hO := hO.mv hE rfl rfl
        replace hD := hD.ev hE rfl
        replace h153 := h153.mv hE rfl
        replace h154 := h154.mv hE rfl
        replace h158 := h158.mv hE rfl rfl
        replace h173 := h173.mv hE rfl
        replace h175 := h175.mv hE rfl
        clear hE
        refine andH (Hold.of hS (bks := []) (by kernel_rfl) hD) ?_
        intro hH
        obtain ⟨hq, hm⟩ := hm
        obtain ⟨news, hN⟩ := h158.src
        refine only 7 (by kernel_rfl) (by rfl) (append (E := 3) (T := tI) (col := 1119) (xs := [(gi r114.1 0).At]) T hS (by kernel_rfl) (by kernel_rfl) (by kernel_rfl) (by kernel_rfl) h180 hN (by kernel_rfl) (by kernel_rfl) (by kernel_rfl) (by kernel_rfl) hq ?_)
        intro a184 c185 a w181 χ182 hE h183 hS
        clear hq hN
        clear h180
        replace hO := hO.mv hE rfl rfl
        replace hD := hD.ev hE rfl
        replace h153 := h153.mv hE rfl
        replace h154 := h154.mv hE rfl
        replace h158 := h158.mv hE rfl rfl
        replace h173 := h173.mv hE rfl
        replace h175 := h175.mv hE rfl
        clear hE
        replace hS := hS.sel [4, 5, 113, 114, 119, 122, 125, 115, 116, 117, 120] [5] (sy' := ⟨[(4, Pt 5 0), (5, V (.slice a151 rest_150.length c152)), (113, V (.agg #[.int .i64 0, .int .i64 0, .int .i64 0, .slice none 0 0])), (114, V (.slice a115 r114.1.length c116)), (119, V (.slice a156 places_155.length c157)), (122, I (IntKind.i64.wrap (r169.1 + 1))), (125, I r169.2), (115, V (.pointer (some A172))), (116, V (.pointer (some A174))), (117, I ((gi r114.1 0).At)), (120, V (.slice a184 ([(gi r114.1 0).At] ++ places_155).length c185))], [(5, (25, [I 0, I 0, I 0, V (.slice none 0 0)]))]⟩) (by kernel_rfl)
        refine andH (Hold.of hS (bks := []) (by kernel_rfl) hD) ?_
        intro hH
        obtain ⟨hgq10, hm⟩ := hm
        refine drcut (fun a w => ∃ (χ : Nat → Nat), St Tryd.f11.ntmps ⟨[(4, Pt 5 0), (5, V (.slice none 0 0)), (6, I (gi ([(gi r114.1 0).At] ++ places_155) (IntKind.i64.wrap (r169.1 + 1)))), (7, I r169.2)], [(5, (25, [I 0, I 0, I 0, V (.slice none 0 0)]))]⟩ ρ a w χ ∧ Old w0 χ0 w χ ∧ M0 w170 χ171 w χ ∧ Hold w170 χ171 (filt [] ⟨[(4, Pt 5 0), (5, V (.slice a151 rest_150.length c152)), (10, V (.slice a115 r114.1.length c116)), (13, V (.slice a156 places_155.length c157)), (19, I r169.1), (20, I r169.2)], [(5, (25, [I 0, I 0, I 0, V (.slice none 0 0)]))]⟩) ρ w) #[true, true, true, true, true, true, true, true, true, true, true, true, true, true, true, true, true] 0 ?_ (fun H => ?_)
        · rintro a w236 ⟨χ235, hS, hO, hD, hH⟩
          clear hgq10
          refine drawnDone (by kernel_rfl) ?_
          clear hD hH
          replace hS := hS.sel [4, 5, 6, 7] [5] (sy' := ⟨[(4, Pt 5 0), (5, V (.slice none 0 0)), (6, I (gi ([(gi r114.1 0).At] ++ places_155) (IntKind.i64.wrap (r169.1 + 1)))), (7, I r169.2)], [(5, (25, [I 0, I 0, I 0, V (.slice none 0 0)]))]⟩) (by kernel_rfl)
          refine wret ?_
          exact fin T hS hO (fun c => c) rfl (r := [.agg #[.int .i64 0, .int .i64 0, .int .i64 0, .slice none 0 0], .slice none 0 0, .int .i64 (gi ([(gi r114.1 0).At] ++ places_155) (IntKind.i64.wrap (r169.1 + 1))), .int .i64 r169.2]) (by kernel_rfl) (fun χ' hM hC => ⟨((⟨0, 0, 0, []⟩ : Api_Object), [], gi ([(gi r114.1 0).At] ++ places_155) (IntKind.i64.wrap (r169.1 + 1)), r169.2), hm, none, 0, none, 0, rfl, RS.empty _ _ _, RS.empty _ _ _⟩)
        · clear hm
          refine anyOf (is := [10, 13]) (by kernel_rfl) (by decide) ?_
          intro i hi
          rcases mem2 hi with rfl | rfl
          · obtain ⟨χ218, hE, hF⟩ := h183.freeze (by decide)
            replace hS := hS.ev hE (xone_box (by kernel_rfl))
            replace hO := hO.mv hE rfl rfl
            replace hD := hD.ev hE rfl
            replace h153 := h153.mv hE rfl
            replace h154 := h154.mv hE rfl
            replace h158 := h158.mv hE rfl rfl
            replace h173 := h173.mv hE rfl
            replace h175 := h175.mv hE rfl
            have h219 := hF; clear hE hF
            have hq := hgq10
            refine oneOp (by rfl) (index (e := 3) (k := .i64) T hS (by kernel_rfl) (by kernel_rfl) (by kernel_rfl) (by kernel_rfl) h219 (by kernel_rfl) (by kernel_rfl) hq.1 hq.2 ?_)
            intro A220 a h221 hS
            clear hq
            refine andH (Hold.of hS (bks := []) (by kernel_rfl) hD) ?_
            intro hH
            refine anyOf (is := [11, 13]) (by kernel_rfl) (by decide) ?_
            intro i hi
            rcases mem2 hi with rfl | rfl
            · refine oneOp (by rfl) (load1 T hS (by kernel_rfl) (by kernel_rfl) (by kernel_rfl) h221 rfl (by kernel_rfl) ?_)
              intro v222 a hv hS
              cases hv
              refine andH (Hold.of hS (bks := []) (by kernel_rfl) hD) ?_
              intro hH
              replace hS := hS.sel [4, 5, 113, 114, 119, 122, 125, 115, 116, 117, 120, 123, 124] [5] (sy' := ⟨[(4, Pt 5 0), (5, V (.slice a151 rest_150.length c152)), (113, V (.agg #[.int .i64 0, .int .i64 0, .int .i64 0, .slice none 0 0])), (114, V (.slice a115 r114.1.length c116)), (119, V (.slice a156 places_155.length c157)), (122, I (IntKind.i64.wrap (r169.1 + 1))), (125, I r169.2), (115, V (.pointer (some A172))), (116, V (.pointer (some A174))), (117, I ((gi r114.1 0).At)), (120, V (.slice a184 ([(gi r114.1 0).At] ++ places_155).length c185)), (123, V (.pointer (some A220))), (124, I (gi ([(gi r114.1 0).At] ++ places_155) (IntKind.i64.wrap (r169.1 + 1))))], [(5, (25, [I 0, I 0, I 0, V (.slice none 0 0)]))]⟩) (by kernel_rfl)
              refine only 13 (by kernel_rfl) (by rfl) (store1 T hS (by kernel_rfl) (by kernel_rfl) (sy' := ⟨[(4, Pt 5 0), (5, V (.slice a151 rest_150.length c152)), (113, V (.agg #[.int .i64 0, .int .i64 0, .int .i64 0, .slice none 0 0])), (114, V (.slice a115 r114.1.length c116)), (119, V (.slice a156 places_155.length c157)), (122, I (IntKind.i64.wrap (r169.1 + 1))), (125, I r169.2), (115, V (.pointer (some A172))), (116, V (.pointer (some A174))), (117, I ((gi r114.1 0).At)), (120, V (.slice a184 ([(gi r114.1 0).At] ++ places_155).length c185)), (123, V (.pointer (some A220))), (124, I (gi ([(gi r114.1 0).At] ++ places_155) (IntKind.i64.wrap (r169.1 + 1))))], [(5, (25, [I 0, I 0, I 0, V (.slice none 0 0)])), (5, (25, [I 0, I 0, I 0, V (.slice none 0 0)]))]⟩) (by kernel_rfl) ?_)
              intro a w223 χ224 hS hE
              replace hO := hO.mv hE rfl rfl
              replace hD := hD.ev hE rfl
              replace h153 := h153.mv hE rfl
              replace h154 := h154.mv hE rfl
              replace h158 := h158.mv hE rfl rfl
              replace h173 := h173.mv hE rfl
              replace h175 := h175.mv hE rfl
              replace h219 := h219.mv hE rfl
              replace h221 := h221.mv hE rfl
              clear hE
              replace hS := hS.sel [4, 5, 113, 114, 119, 122, 125, 115, 116, 117, 120, 123, 124] [5] (sy' := ⟨[(4, Pt 5 0), (5, V (.slice a151 rest_150.length c152)), (113, V (.agg #[.int .i64 0, .int .i64 0, .int .i64 0, .slice none 0 0])), (114, V (.slice a115 r114.1.length c116)), (119, V (.slice a156 places_155.length c157)), (122, I (IntKind.i64.wrap (r169.1 + 1))), (125, I r169.2), (115, V (.pointer (some A172))), (116, V (.pointer (some A174))), (117, I ((gi r114.1 0).At)), (120, V (.slice a184 ([(gi r114.1 0).At] ++ places_155).length c185)), (123, V (.pointer (some A220))), (124, I (gi ([(gi r114.1 0).At] ++ places_155) (IntKind.i64.wrap (r169.1 + 1))))], [(5, (25, [I 0, I 0, I 0, V (.slice none 0 0)]))]⟩) (by kernel_rfl)
              refine andH (Hold.of hS (bks := []) (by kernel_rfl) hD) ?_
              intro hH
              refine take T [14, 15, 16] [] [4, 5, 6, 7] hS (by kernel_rfl) (by kernel_rfl) (by kernel_rfl) hH (listed' := #[true, true, true, true, true, true, true, true, true, true, true, true, true, true, true, true, true]) (fuel := 0) (sy' := ⟨[(4, Pt 5 0), (5, V (.slice none 0 0)), (6, I (gi ([(gi r114.1 0).At] ++ places_155) (IntKind.i64.wrap (r169.1 + 1)))), (7, I r169.2)], [(5, (25, [I 0, I 0, I 0, V (.slice none 0 0)]))]⟩) (by kernel_rfl) (by rfl) ?_
              intro a hS
              exact H _ _ ⟨_, hS.sel [4, 5, 6, 7] [5] (by kernel_rfl), hO, hD, hH⟩
            · replace hS := hS.sel [4, 5, 113, 114, 119, 122, 125, 115, 116, 117, 120, 123] [5] (sy' := ⟨[(4, Pt 5 0), (5, V (.slice a151 rest_150.length c152)), (113, V (.agg #[.int .i64 0, .int .i64 0, .int .i64 0, .slice none 0 0])), (114, V (.slice a115 r114.1.length c116)), (119, V (.slice a156 places_155.length c157)), (122, I (IntKind.i64.wrap (r169.1 + 1))), (125, I r169.2), (115, V (.pointer (some A172))), (116, V (.pointer (some A174))), (117, I ((gi r114.1 0).At)), (120, V (.slice a184 ([(gi r114.1 0).At] ++ places_155).length c185)), (123, V (.pointer (some A220)))], [(5, (25, [I 0, I 0, I 0, V (.slice none 0 0)]))]⟩) (by kernel_rfl)
              refine oneOp (by rfl) (store1 T hS (by kernel_rfl) (by kernel_rfl) (sy' := ⟨[(4, Pt 5 0), (5, V (.slice a151 rest_150.length c152)), (113, V (.agg #[.int .i64 0, .int .i64 0, .int .i64 0, .slice none 0 0])), (114, V (.slice a115 r114.1.length c116)), (119, V (.slice a156 places_155.length c157)), (122, I (IntKind.i64.wrap (r169.1 + 1))), (125, I r169.2), (115, V (.pointer (some A172))), (116, V (.pointer (some A174))), (117, I ((gi r114.1 0).At)), (120, V (.slice a184 ([(gi r114.1 0).At] ++ places_155).length c185)), (123, V (.pointer (some A220)))], [(5, (25, [I 0, I 0, I 0, V (.slice none 0 0)])), (5, (25, [I 0, I 0, I 0, V (.slice none 0 0)]))]⟩) (by kernel_rfl) ?_)
              intro a w225 χ226 hS hE
              replace hO := hO.mv hE rfl rfl
              replace hD := hD.ev hE rfl
              replace h153 := h153.mv hE rfl
              replace h154 := h154.mv hE rfl
              replace h158 := h158.mv hE rfl rfl
              replace h173 := h173.mv hE rfl
              replace h175 := h175.mv hE rfl
              replace h219 := h219.mv hE rfl
              replace h221 := h221.mv hE rfl
              clear hE
              replace hS := hS.sel [4, 5, 113, 114, 119, 122, 125, 115, 116, 117, 120, 123] [5] (sy' := ⟨[(4, Pt 5 0), (5, V (.slice a151 rest_150.length c152)), (113, V (.agg #[.int .i64 0, .int .i64 0, .int .i64 0, .slice none 0 0])), (114, V (.slice a115 r114.1.length c116)), (119, V (.slice a156 places_155.length c157)), (122, I (IntKind.i64.wrap (r169.1 + 1))), (125, I r169.2), (115, V (.pointer (some A172))), (116, V (.pointer (some A174))), (117, I ((gi r114.1 0).At)), (120, V (.slice a184 ([(gi r114.1 0).At] ++ places_155).length c185)), (123, V (.pointer (some A220)))], [(5, (25, [I 0, I 0, I 0, V (.slice none 0 0)]))]⟩) (by kernel_rfl)
              refine andH (Hold.of hS (bks := []) (by kernel_rfl) hD) ?_
              intro hH
              refine take T [14] [] [4, 5, 123, 125] hS (by kernel_rfl) (by kernel_rfl) (by kernel_rfl) hH (listed' := #[true, true, true, true, true, true, true, true, true, true, true, false, true, true, true, false, false]) (fuel := 3) (sy' := ⟨[(4, Pt 5 0), (5, V (.slice none 0 0)), (123, V (.pointer (some A220))), (125, I r169.2)], [(5, (25, [I 0, I 0, I 0, V (.slice none 0 0)]))]⟩) (by kernel_rfl) (by rfl) ?_
              intro a hS
              refine only 11 (by kernel_rfl) (by rfl) (load1 T hS (by kernel_rfl) (by kernel_rfl) (by kernel_rfl) h221 rfl (by kernel_rfl) ?_)
              intro v227 a hv hS
              cases hv
              refine andH (Hold.of hS (bks := []) (by kernel_rfl) hD) ?_
              intro hH
              refine take T [15, 16] [] [4, 5, 6, 7] hS (by kernel_rfl) (by kernel_rfl) (by kernel_rfl) hH (listed' := #[true, true, true, true, true, true, true, true, true, true, true, true, true, true, true, true, true]) (fuel := 0) (sy' := ⟨[(4, Pt 5 0), (5, V (.slice none 0 0)), (6, I (gi ([(gi r114.1 0).At] ++ places_155) (IntKind.i64.wrap (r169.1 + 1)))), (7, I r169.2)], [(5, (25, [I 0, I 0, I 0, V (.slice none 0 0)]))]⟩) (by kernel_rfl) (by rfl) ?_
              intro a hS
              exact H _ _ ⟨_, hS.sel [4, 5, 6, 7] [5] (by kernel_rfl), hO, hD, hH⟩
          · replace hS := hS.sel [4, 5, 113, 114, 119, 122, 125, 115, 116, 117, 120] [5] (sy' := ⟨[(4, Pt 5 0), (5, V (.slice a151 rest_150.length c152)), (113, V (.agg #[.int .i64 0, .int .i64 0, .int .i64 0, .slice none 0 0])), (114, V (.slice a115 r114.1.length c116)), (119, V (.slice a156 places_155.length c157)), (122, I (IntKind.i64.wrap (r169.1 + 1))), (125, I r169.2), (115, V (.pointer (some A172))), (116, V (.pointer (some A174))), (117, I ((gi r114.1 0).At)), (120, V (.slice a184 ([(gi r114.1 0).At] ++ places_155).length c185))], [(5, (25, [I 0, I 0, I 0, V (.slice none 0 0)]))]⟩) (by kernel_rfl)
            refine oneOp (by rfl) (store1 T hS (by kernel_rfl) (by kernel_rfl) (sy' := ⟨[(4, Pt 5 0), (5, V (.slice a151 rest_150.length c152)), (113, V (.agg #[.int .i64 0, .int .i64 0, .int .i64 0, .slice none 0 0])), (114, V (.slice a115 r114.1.length c116)), (119, V (.slice a156 places_155.length c157)), (122, I (IntKind.i64.wrap (r169.1 + 1))), (125, I r169.2), (115, V (.pointer (some A172))), (116, V (.pointer (some A174))), (117, I ((gi r114.1 0).At)), (120, V (.slice a184 ([(gi r114.1 0).At] ++ places_155).length c185))], [(5, (25, [I 0, I 0, I 0, V (.slice none 0 0)])), (5, (25, [I 0, I 0, I 0, V (.slice none 0 0)]))]⟩) (by kernel_rfl) ?_)
            intro a w228 χ229 hS hE
            replace hO := hO.mv hE rfl rfl
            replace hD := hD.ev hE rfl
            replace h153 := h153.mv hE rfl
            replace h154 := h154.mv hE rfl
            replace h158 := h158.mv hE rfl rfl
            replace h173 := h173.mv hE rfl
            replace h175 := h175.mv hE rfl
            replace h183 := h183.mv hE rfl rfl
            clear hE
            replace hS := hS.sel [4, 5, 113, 114, 119, 122, 125, 115, 116, 117, 120] [5] (sy' := ⟨[(4, Pt 5 0), (5, V (.slice a151 rest_150.length c152)), (113, V (.agg #[.int .i64 0, .int .i64 0, .int .i64 0, .slice none 0 0])), (114, V (.slice a115 r114.1.length c116)), (119, V (.slice a156 places_155.length c157)), (122, I (IntKind.i64.wrap (r169.1 + 1))), (125, I r169.2), (115, V (.pointer (some A172))), (116, V (.pointer (some A174))), (117, I ((gi r114.1 0).At)), (120, V (.slice a184 ([(gi r114.1 0).At] ++ places_155).length c185))], [(5, (25, [I 0, I 0, I 0, V (.slice none 0 0)]))]⟩) (by kernel_rfl)
            refine andH (Hold.of hS (bks := []) (by kernel_rfl) hD) ?_
            intro hH
            refine take T [14] [] [4, 5, 120, 122, 125] hS (by kernel_rfl) (by kernel_rfl) (by kernel_rfl) hH (listed' := #[true, true, true, true, true, true, true, true, true, true, false, false, true, true, true, false, false]) (fuel := 4) (sy' := ⟨[(4, Pt 5 0), (5, V (.slice none 0 0)), (120, V (.slice a184 ([(gi r114.1 0).At] ++ places_155).length c185)), (122, I (IntKind.i64.wrap (r169.1 + 1))), (125, I r169.2)], [(5, (25, [I 0, I 0, I 0, V (.slice none 0 0)]))]⟩) (by kernel_rfl) (by rfl) ?_
            intro a hS
            obtain ⟨χ230, hE, hF⟩ := h183.freeze (by decide)
            replace hS := hS.ev hE (xone_box (by kernel_rfl))
            replace hO := hO.mv hE rfl rfl
            replace hD := hD.ev hE rfl
            replace h153 := h153.mv hE rfl
            replace h154 := h154.mv hE rfl
            replace h158 := h158.mv hE rfl rfl
            replace h173 := h173.mv hE rfl
            replace h175 := h175.mv hE rfl
            have h231 := hF; clear hE hF
            have hq := hgq10
            refine only 10 (by kernel_rfl) (by rfl) (index (e := 3) (k := .i64) T hS (by kernel_rfl) (by kernel_rfl) (by kernel_rfl) (by kernel_rfl) h231 (by kernel_rfl) (by kernel_rfl) hq.1 hq.2 ?_)
            intro A232 a h233 hS
            clear hq
            refine andH (Hold.of hS (bks := []) (by kernel_rfl) hD) ?_
            intro hH
            refine only 11 (by kernel_rfl) (by rfl) (load1 T hS (by kernel_rfl) (by kernel_rfl) (by kernel_rfl) h233 rfl (by kernel_rfl) ?_)
            intro v234 a hv hS
            cases hv
            refine andH (Hold.of hS (bks := []) (by kernel_rfl) hD) ?_
            intro hH
            refine take T [15, 16] [] [4, 5, 6, 7] hS (by kernel_rfl) (by kernel_rfl) (by kernel_rfl) hH (listed' := #[true, true, true, true, true, true, true, true, true, true, true, true, true, true, true, true, true]) (fuel := 0) (sy' := ⟨[(4, Pt 5 0), (5, V (.slice none 0 0)), (6, I (gi ([(gi r114.1 0).At] ++ places_155) (IntKind.i64.wrap (r169.1 + 1)))), (7, I r169.2)], [(5, (25, [I 0, I 0, I 0, V (.slice none 0 0)]))]⟩) (by kernel_rfl) (by rfl) ?_
            intro a hS
            exact H _ _ ⟨_, hS.sel [4, 5, 6, 7] [5] (by kernel_rfl), hO, hD, hH⟩
      · replace hm := hm.2 hb
        refine wskip ?_
        refine regM T hS (sp := []) (ks := [4, 5, 6, 7]) (bs := [5]) (sy' := ⟨[(4, Pt 5 0), (5, V (.slice a151 rest_150.length c152)), (6, I end_), (7, I 0)], [(5, (25, [I x_159, I x_160, I x_161, V (.slice a163 x_162.length c164)]))]⟩) (by kernel_rfl) ?_
        intro ρ a w239 χ240 hS hE hr
        replace hO := hO.mv hE rfl rfl
        replace h153 := h153.mv hE rfl
        replace h165 := h165.mv hE rfl rfl
        clear hE hr
        refine wret ?_
        obtain ⟨χ237, hE, hF⟩ := h165.freeze (by decide)
        replace hS := hS.ev hE (xone_box (by kernel_rfl))
        replace hO := hO.mv hE rfl rfl
        replace h153 := h153.mv hE rfl
        have h238 := hF; clear hE hF
        exact fin T hS hO (fun c => c) rfl (r := [.agg #[.int .i64 x_159, .int .i64 x_160, .int .i64 x_161, .slice a163 x_162.length c164], .slice a151 rest_150.length c152, .int .i64 end_, .int .i64 0]) (by kernel_rfl) (fun χ' hM hC => ⟨((⟨x_159, x_160, x_161, x_162⟩ : Api_Object), rest_150, end_, 0), hm, a163, c164, a151, c152, rfl, h238.m0 hM, h153.m0 hM⟩)
theorem C11 (k21 : S21) (k24 : S24) (k26 : S26) (k28 : S28) (v : ∀ (lines : List (List Token_Token)) (end_ : Int), preTk lines end_ → VC11 lines end_ (fun r => r = objtext_Take lines end_)) : S11 := by
  intro w χ lines end_ a1 c1   hp h1
  refine (W11 k21 k24 k26 k28 w χ lines end_ a1 c1   _ (v lines end_ hp) h1).mono ?_
  rintro _ _ _ _ ⟨r, rfl, h⟩
  exact h
end Go.Proofs.YtmedefjboagkmaaDoor
