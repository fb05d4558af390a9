/- Walks: each function returns what its condition asks. Condition: the contracts of its callees, handed in. -/
import Derived.Test.YtnhdgebboafliaaWWalksC
set_option linter.all false
namespace Go.Proofs.Ytnhdgebboafliaa
open Go Go.Sv
set_option maxHeartbeats 1000000
def S15 : Prop := ∀ (w : World) (χ : Nat → Nat) (o_ : Api_Object) (l_ : List Api_Oper) (state : Int) (picks : List Api_Pick) (a1 : Option Addr) (c1 : Nat) (a2 : Option Addr) (c2 : Nat) (a3 : Option Addr) (c3 : Nat), RS tApi_Row w χ a1 o_.Rows c1 → RS tApi_Oper w χ a2 l_ c2 → RS tApi_Pick w χ a3 picks c3 → Ret Try.prog 15 #[.agg #[.int .i64 o_.States, .int .i64 o_.Kinds, .int .i64 o_.Init, .slice a1 o_.Rows.length c1], .slice a2 l_.length c2, .int .i64 state, .slice a3 picks.length c3] xnone w χ (fun w χ' v => v = .tuple #[.int .i64 ((ref28_From o_ l_ state picks).1), .int .i64 ((ref28_From o_ l_ state picks).2.1), .int .i64 ((ref28_From o_ l_ state picks).2.2)])
theorem hb15 : hasBody Try.prog 15 = true := by kernel_rfl
/-- replevin/replevinref28.From -/
theorem W15 (k18 : S18) (k43 : S43) (w0 : World) (χ0 : Nat → Nat) (o_ : Api_Object) (l_ : List Api_Oper) (state : Int) (picks : List Api_Pick) (a1 : Option Addr) (c1 : Nat) (a2 : Option Addr) (c2 : Nat) (a3 : Option Addr) (c3 : Nat) (Q : Int × Int × Int → Prop) (hm : VC15 o_ l_ state picks Q) (h1 : RS tApi_Row w0 χ0 a1 o_.Rows c1) (h2 : RS tApi_Oper w0 χ0 a2 l_ c2) (h3 : RS tApi_Pick w0 χ0 a3 picks c3) :
    Ret Try.prog 15 #[.agg #[.int .i64 o_.States, .int .i64 o_.Kinds, .int .i64 o_.Init, .slice a1 o_.Rows.length c1], .slice a2 l_.length c2, .int .i64 state, .slice a3 picks.length c3] xnone w0 χ0 (fun w χ' v => ∃ r, Q r ∧ v = .tuple #[.int .i64 r.1, .int .i64 r.2.1, .int .i64 r.2.2]) := by
  unfold VC15 at hm
  replace hm := hm (h1.sm (by kernel_rfl))
  replace hm := hm (h2.sm (by kernel_rfl))
  replace hm := hm (h3.sm (by kernel_rfl))
  refine enter Try.func15 rfl (vals := [.agg #[.int .i64 o_.States, .int .i64 o_.Kinds, .int .i64 o_.Init, .slice a1 o_.Rows.length c1], .slice a2 l_.length c2, .int .i64 state, .slice a3 picks.length c3]) (by kernel_rfl) ?_
  intro ρ a hS hO hM
  replace h1 := h1.m0 hM
  replace h2 := h2.m0 hM
  replace h3 := h3.m0 hM
  clear hM
  refine regM T hS (sp := []) (ks := [1, 2, 3, 4]) (bs := [5]) (sy' := ⟨[(1, V (.slice a2 l_.length c2)), (2, I state), (3, V (.slice a3 picks.length c3)), (4, Pt 5 0)], [(5, (24, [I o_.States, I o_.Kinds, I o_.Init, V (.slice a1 o_.Rows.length c1)]))]⟩) (by kernel_rfl) ?_
  intro ρ a w168 χ169 hS hE hr
  replace hO := hO.mv hE rfl rfl
  replace h1 := h1.mv hE rfl
  replace h2 := h2.mv hE rfl
  replace h3 := h3.mv hE rfl
  clear hE hr
  refine regO ?_
  refine opsP T hS 1 (sp := []) (ks := [1, 2, 3, 4, 19]) (bs := [5]) (sy' := ⟨[(1, V (.slice a2 l_.length c2)), (2, I state), (3, V (.slice a3 picks.length c3)), (4, Pt 5 0), (19, V (.agg #[.int .i64 o_.States, .int .i64 o_.Kinds, .int .i64 o_.Init, .slice a1 o_.Rows.length c1]))], [(5, (24, [I o_.States, I o_.Kinds, I o_.Init, V (.slice a1 o_.Rows.length c1)]))]⟩) (by kernel_rfl) ?_
  intro a hS
  refine op1 (call hS (by kernel_rfl) (by kernel_rfl) hb43 (by kernel_rfl) (fun _ _ => rfl) (k43 _ _ o_ a1 c1 h1) ?_)
  intro v101 a w102 χ103 hE hp hS
  replace hO := hO.mv hE rfl rfl
  replace h1 := h1.mv hE rfl
  replace h2 := h2.mv hE rfl
  replace h3 := h3.mv hE rfl
  clear hE
  obtain ⟨r104, hr⟩ : ∃ r, ref23_Check o_ = r := ⟨_, rfl⟩
  replace hm := hm r104 hr
  rw [hr] at hp
  clear hr
  subst hp
  refine endP T hS (sp := []) (ks := [1, 2, 3, 4, 12]) (bs := [5]) (sy' := ⟨[(1, V (.slice a2 l_.length c2)), (2, I state), (3, V (.slice a3 picks.length c3)), (4, Pt 5 0), (12, I r104.2)], [(5, (24, [I o_.States, I o_.Kinds, I o_.Init, V (.slice a1 o_.Rows.length c1)]))]⟩) (by kernel_rfl) ?_
  intro a hS
  refine wseq ?_
  refine regP T hS (sp := []) (ks := [1, 2, 3, 4, 24]) (bs := [5]) (sy' := ⟨[(1, V (.slice a2 l_.length c2)), (2, I state), (3, V (.slice a3 picks.length c3)), (4, Pt 5 0), (24, B (r104.2 != 0))], [(5, (24, [I o_.States, I o_.Kinds, I o_.Init, V (.slice a1 o_.Rows.length c1)]))]⟩) (by kernel_rfl) ?_
  intro a hS
  refine wcond hS (b := (r104.2 != 0)) (by kernel_rfl) (fun hb => ?_) (fun hb => ?_)
  · replace hm := hm.1 hb
    refine regP T hS (sp := []) (ks := [8, 9, 10]) (bs := []) (sy' := ⟨[(8, I 0), (9, I (-1)), (10, I 2)], []⟩) (by kernel_rfl) ?_
    intro a hS
    refine wret ?_
    exact fin T hS hO (fun c => c) rfl (r := [.int .i64 0, .int .i64 (-1), .int .i64 2]) (by kernel_rfl) (fun χ' hM hC => ⟨(0, (-1), 2), hm, rfl⟩)
  · replace hm := hm.2 hb
    refine wskip ?_
    refine wseq ?_
    refine regP T hS (sp := [27]) (ks := [1, 2, 3, 4, 32]) (bs := [5]) (sy' := ⟨[(1, V (.slice a2 l_.length c2)), (2, I state), (3, V (.slice a3 picks.length c3)), (4, Pt 5 0), (32, B ((decide (state < 0)) || (decide (state ≥ o_.States))))], [(5, (24, [I o_.States, I o_.Kinds, I o_.Init, V (.slice a1 o_.Rows.length c1)]))]⟩) (by kernel_rfl) ?_
    intro a hS
    refine wcond hS (b := ((decide (state < 0)) || (decide (state ≥ o_.States)))) (by kernel_rfl) (fun hb => ?_) (fun hb => ?_)
    · replace hm := hm.1 hb
      refine regP T hS (sp := []) (ks := [8, 9, 10]) (bs := []) (sy' := ⟨[(8, I 0), (9, I (-1)), (10, I 30)], []⟩) (by kernel_rfl) ?_
      intro a hS
      refine wret ?_
      exact fin T hS hO (fun c => c) rfl (r := [.int .i64 0, .int .i64 (-1), .int .i64 30]) (by kernel_rfl) (fun χ' hM hC => ⟨(0, (-1), 30), hm, rfl⟩)
    · replace hm := hm.2 hb
      refine wskip ?_
      refine wcut (fun a w => ∃ (ρ : Nat → Nat) (χ : Nat → Nat) (state_105 : Int), VC15_J1 picks Q state_105 ∧ St Try.f15.ntmps ⟨[(2, I state_105), (3, V (.slice a3 picks.length c3))], []⟩ ρ a w χ ∧ Old w0 χ0 w χ ∧ RS tApi_Pick w χ a3 picks c3) ?_ ?_
      · refine regP T hS (sp := []) (ks := [1, 2, 3, 4, 13]) (bs := [5]) (sy' := ⟨[(1, V (.slice a2 l_.length c2)), (2, I state), (3, V (.slice a3 picks.length c3)), (4, Pt 5 0), (13, I 0)], [(5, (24, [I o_.States, I o_.Kinds, I o_.Init, V (.slice a1 o_.Rows.length c1)]))]⟩) (by kernel_rfl) ?_
        intro a hS
        refine wblock ?_
        obtain ⟨I1, μ1, hm0, hm⟩ := hm
        refine wloop (σ := Int × Int) (fun s a w => ∃ (ρ : Nat → Nat) (χ : Nat → Nat), I1 s.1 s.2 ∧ St Try.f15.ntmps ⟨[(1, V (.slice a2 l_.length c2)), (2, I s.1), (3, V (.slice a3 picks.length c3)), (4, Pt 5 0), (13, I s.2)], [(5, (24, [I o_.States, I o_.Kinds, I o_.Init, V (.slice a1 o_.Rows.length c1)]))]⟩ ρ a w χ ∧ Old w0 χ0 w χ ∧ RS tApi_Oper w χ a2 l_ c2 ∧ RS tApi_Pick w χ a3 picks c3 ∧ RS tApi_Row w χ a1 o_.Rows c1) (fun s => μ1 s.1 s.2) (⟨state, 0⟩) ?_ ?_
        · exact ⟨ρ, _, hm0, hS.sel [1, 2, 3, 4, 13] [5] (by kernel_rfl), hO, h2, h3, h1⟩
        · rintro ⟨state_108, i_110⟩ a w165 ⟨ρ, χ164, hI, hS, hO, h107, h109, h111⟩
          replace hm := hm state_108 i_110 hI
          clear hI hm0
          refine wseq ?_
          refine regP T hS (sp := []) (ks := [1, 2, 3, 4, 13, 36]) (bs := [5]) (sy' := ⟨[(1, V (.slice a2 l_.length c2)), (2, I state_108), (3, V (.slice a3 picks.length c3)), (4, Pt 5 0), (13, I i_110), (36, B (decide (i_110 < ((picks.length : Nat) : Int))))], [(5, (24, [I o_.States, I o_.Kinds, I o_.Init, V (.slice a1 o_.Rows.length c1)]))]⟩) (by kernel_rfl) ?_
          intro a hS
          refine wcond hS (b := decide (i_110 < ((picks.length : Nat) : Int))) (by kernel_rfl) (fun hb => ?_) (fun hb => ?_)
          · replace hm := hm.1 hb
            refine wskip ?_
            refine wseq ?_
            refine wblock ?_
            refine regO ?_
            refine opsP T hS 2 (sp := []) (ks := [1, 2, 3, 4, 13, 39, 40]) (bs := [5]) (sy' := ⟨[(1, V (.slice a2 l_.length c2)), (2, I state_108), (3, V (.slice a3 picks.length c3)), (4, Pt 5 0), (13, I i_110), (39, V (.slice a3 picks.length c3)), (40, I i_110)], [(5, (24, [I o_.States, I o_.Kinds, I o_.Init, V (.slice a1 o_.Rows.length c1)]))]⟩) (by kernel_rfl) ?_
            intro a hS
            obtain ⟨hq, hm⟩ := hm
            refine op1 (index (e := 52) (k := .i64) T hS (by kernel_rfl) (by kernel_rfl) (by kernel_rfl) (by kernel_rfl) h109 (by kernel_rfl) (by kernel_rfl) hq.1 hq.2 ?_)
            intro A112 a h113 hS
            clear hq
            refine op1 (loadA T hS (by kernel_rfl) (by kernel_rfl) (by kernel_rfl) h113 (by kernel_rfl) (by kernel_rfl) ?_)
            intro v114 a hv hS
            subst hv
            refine endM T hS (sp := []) (ks := [1, 2, 3, 4, 13, 14]) (bs := [5, 15]) (sy' := ⟨[(1, V (.slice a2 l_.length c2)), (2, I state_108), (3, V (.slice a3 picks.length c3)), (4, Pt 5 0), (13, I i_110), (14, Pt 15 0)], [(5, (24, [I o_.States, I o_.Kinds, I o_.Init, V (.slice a1 o_.Rows.length c1)])), (15, (52, [I ((gi picks i_110).Oper), I ((gi picks i_110).Result)]))]⟩) (by kernel_rfl) ?_
            intro ρ a w162 χ163 hS hE hr
            replace hO := hO.mv hE rfl rfl
            replace h107 := h107.mv hE rfl
            replace h109 := h109.mv hE rfl
            replace h111 := h111.mv hE rfl
            clear hE hr
            refine wseq ?_
            refine regP T hS (sp := [46]) (ks := [1, 2, 3, 4, 13, 14, 52]) (bs := [5, 15]) (sy' := ⟨[(1, V (.slice a2 l_.length c2)), (2, I state_108), (3, V (.slice a3 picks.length c3)), (4, Pt 5 0), (13, I i_110), (14, Pt 15 0), (52, B ((decide (((gi picks i_110).Oper) < 0)) || (decide (((gi picks i_110).Oper) ≥ ((l_.length : Nat) : Int)))))], [(5, (24, [I o_.States, I o_.Kinds, I o_.Init, V (.slice a1 o_.Rows.length c1)])), (15, (52, [I ((gi picks i_110).Oper), I ((gi picks i_110).Result)]))]⟩) (by kernel_rfl) ?_
            intro a hS
            refine wcond hS (b := ((decide (((gi picks i_110).Oper) < 0)) || (decide (((gi picks i_110).Oper) ≥ ((l_.length : Nat) : Int))))) (by kernel_rfl) (fun hb => ?_) (fun hb => ?_)
            · replace hm := hm.1 hb
              refine regP T hS (sp := []) (ks := [8, 9, 10]) (bs := []) (sy' := ⟨[(8, I 0), (9, I i_110), (10, I 2)], []⟩) (by kernel_rfl) ?_
              intro a hS
              refine wret ?_
              exact fin T hS hO (fun c => c) rfl (r := [.int .i64 0, .int .i64 i_110, .int .i64 2]) (by kernel_rfl) (fun χ' hM hC => ⟨(0, i_110, 2), hm, rfl⟩)
            · replace hm := hm.2 hb
              refine wskip ?_
              refine wcut (fun a w => ∃ (ρ : Nat → Nat) (χ : Nat → Nat), VC15_J2 o_ l_ picks Q I1 μ1 state_108 i_110 ∧ St Try.f15.ntmps ⟨[(1, V (.slice a2 l_.length c2)), (2, I state_108), (3, V (.slice a3 picks.length c3)), (4, Pt 5 0), (13, I i_110), (14, Pt 15 0)], [(5, (24, [I o_.States, I o_.Kinds, I o_.Init, V (.slice a1 o_.Rows.length c1)])), (15, (52, [I ((gi picks i_110).Oper), I ((gi picks i_110).Result)]))]⟩ ρ a w χ ∧ Old w0 χ0 w χ ∧ RS tApi_Oper w χ a2 l_ c2 ∧ RS tApi_Pick w χ a3 picks c3 ∧ RS tApi_Row w χ a1 o_.Rows c1) ?_ ?_
              · refine regP T hS (sp := []) (ks := [1, 2, 3, 4, 13, 14, 15]) (bs := [5, 15]) (sy' := ⟨[(1, V (.slice a2 l_.length c2)), (2, I state_108), (3, V (.slice a3 picks.length c3)), (4, Pt 5 0), (13, I i_110), (14, Pt 15 0), (15, I 0)], [(5, (24, [I o_.States, I o_.Kinds, I o_.Init, V (.slice a1 o_.Rows.length c1)])), (15, (52, [I ((gi picks i_110).Oper), I ((gi picks i_110).Result)]))]⟩) (by kernel_rfl) ?_
                intro a hS
                refine wblock ?_
                obtain ⟨I2, μ2, hm0, hm⟩ := hm
                refine wloop (σ := Int) (fun s a w => ∃ (ρ : Nat → Nat) (χ : Nat → Nat), I2 s ∧ St Try.f15.ntmps ⟨[(1, V (.slice a2 l_.length c2)), (2, I state_108), (3, V (.slice a3 picks.length c3)), (4, Pt 5 0), (13, I i_110), (14, Pt 15 0), (15, I s)], [(5, (24, [I o_.States, I o_.Kinds, I o_.Init, V (.slice a1 o_.Rows.length c1)])), (15, (52, [I ((gi picks i_110).Oper), I ((gi picks i_110).Result)]))]⟩ ρ a w χ ∧ Old w0 χ0 w χ ∧ RS tApi_Oper w χ a2 l_ c2 ∧ RS tApi_Pick w χ a3 picks c3 ∧ RS tApi_Row w χ a1 o_.Rows c1) (fun s => μ2 s) (0) ?_ ?_
                · exact ⟨ρ, _, hm0, hS.sel [1, 2, 3, 4, 13, 14, 15] [5, 15] (by kernel_rfl), hO, h107, h109, h111⟩
                · rintro k_149 a w159 ⟨ρ, χ158, hI, hS, hO, h147, h148, h150⟩
                  replace hm := hm k_149 hI
                  clear hI hm0
                  refine wseq ?_
                  refine regP T hS (sp := []) (ks := [1, 2, 3, 4, 13, 14, 15, 56]) (bs := [5, 15]) (sy' := ⟨[(1, V (.slice a2 l_.length c2)), (2, I state_108), (3, V (.slice a3 picks.length c3)), (4, Pt 5 0), (13, I i_110), (14, Pt 15 0), (15, I k_149), (56, B (decide (k_149 < i_110)))], [(5, (24, [I o_.States, I o_.Kinds, I o_.Init, V (.slice a1 o_.Rows.length c1)])), (15, (52, [I ((gi picks i_110).Oper), I ((gi picks i_110).Result)]))]⟩) (by kernel_rfl) ?_
                  intro a hS
                  refine wcond hS (b := decide (k_149 < i_110)) (by kernel_rfl) (fun hb => ?_) (fun hb => ?_)
                  · replace hm := hm.1 hb
                    refine wskip ?_
                    refine wseq ?_
                    refine wblock ?_
                    refine drawnSX [5, 15] mixed hS ?_
                    intro w151 χ152 hS hE hD hH
                    replace hO := hO.mv hE rfl rfl
                    replace h147 := h147.mv hE rfl
                    replace h148 := h148.mv hE rfl
                    replace h150 := h150.mv hE rfl
                    clear hE
                    refine take T [0, 1, 5, 6] [5, 15] [1, 2, 3, 4, 13, 14, 15, 59, 60, 65] hS (by kernel_rfl) (by kernel_rfl) (by kernel_rfl) hH (listed' := #[true, true, false, false, false, true, true, false]) (fuel := 4) (sy' := ⟨[(1, V (.slice a2 l_.length c2)), (2, I state_108), (3, V (.slice a3 picks.length c3)), (4, Pt 5 0), (13, I i_110), (14, Pt 15 0), (15, I k_149), (59, V (.slice a3 picks.length c3)), (60, I k_149), (65, I ((gi picks i_110).Oper))], [(5, (24, [I o_.States, I o_.Kinds, I o_.Init, V (.slice a1 o_.Rows.length c1)])), (15, (52, [I ((gi picks i_110).Oper), I ((gi picks i_110).Result)]))]⟩) (by kernel_rfl) (by rfl) ?_
                    intro a hS
                    obtain ⟨hq, hm⟩ := hm
                    refine dindex (e := 52) (k := .i64) T 2 hS (by kernel_rfl) (by kernel_rfl) (by kernel_rfl) (by rfl) (by kernel_rfl) hH (by kernel_rfl) (by kernel_rfl) h148 (by kernel_rfl) (by kernel_rfl) hq.1 hq.2 ?_
                    intro A153 a h154 hS
                    clear hq
                    have h154b := h154.here
                    refine dfieldA (off := 0) (fsz := 1) (ft := 3) (TF := tI) (y := (gi picks k_149).Oper) 3 T hS (by kernel_rfl) (by kernel_rfl) (by kernel_rfl) (by rfl) (by kernel_rfl) hH (by kernel_rfl) h154 (by kernel_rfl) (by kernel_rfl) (by kernel_rfl) (fun cs h => Api_Pick_f0 h) ?_
                    intro A155 a h156 hbl hS
                    have h156b := h154b
                    rw [← hbl] at h156b
                    clear hbl
                    refine dload1 T 4 hS (by kernel_rfl) (by kernel_rfl) (by kernel_rfl) (by rfl) (by kernel_rfl) hH (by kernel_rfl) h156 h156b rfl (by kernel_rfl) ?_
                    intro v157 a hv hS
                    cases hv
                    refine take T [7] [5, 15] [1, 2, 3, 4, 13, 14, 15, 66] hS (by kernel_rfl) (by kernel_rfl) (by kernel_rfl) hH (listed' := #[true, true, true, true, true, true, true, true]) (fuel := 0) (sy' := ⟨[(1, V (.slice a2 l_.length c2)), (2, I state_108), (3, V (.slice a3 picks.length c3)), (4, Pt 5 0), (13, I i_110), (14, Pt 15 0), (15, I k_149), (66, B (((gi picks k_149).Oper) == ((gi picks i_110).Oper)))], [(5, (24, [I o_.States, I o_.Kinds, I o_.Init, V (.slice a1 o_.Rows.length c1)])), (15, (52, [I ((gi picks i_110).Oper), I ((gi picks i_110).Result)]))]⟩) (by kernel_rfl) (by rfl) ?_
                    intro a hS
                    refine drawnDone (by kernel_rfl) ?_
                    clear hD hH
                    replace hS := hS.sel [1, 2, 3, 4, 13, 14, 15, 66] [5, 15] (sy' := ⟨[(1, V (.slice a2 l_.length c2)), (2, I state_108), (3, V (.slice a3 picks.length c3)), (4, Pt 5 0), (13, I i_110), (14, Pt 15 0), (15, I k_149), (66, B (((gi picks k_149).Oper) == ((gi picks i_110).Oper)))], [(5, (24, [I o_.States, I o_.Kinds, I o_.Init, V (.slice a1 o_.Rows.length c1)])), (15, (52, [I ((gi picks i_110).Oper), I ((gi picks i_110).Result)]))]⟩) (by kernel_rfl)
                    refine wcond hS (b := (((gi picks k_149).Oper) == ((gi picks i_110).Oper))) (by kernel_rfl) (fun hb => ?_) (fun hb => ?_)
                    · replace hm := hm.1 hb
                      refine regP T hS (sp := []) (ks := [8, 9, 10]) (bs := []) (sy' := ⟨[(8, I 0), (9, I i_110), (10, I 21)], []⟩) (by kernel_rfl) ?_
                      intro a hS
                      refine wret ?_
                      exact fin T hS hO (fun c => c) rfl (r := [.int .i64 0, .int .i64 i_110, .int .i64 21]) (by kernel_rfl) (fun χ' hM hC => ⟨(0, i_110, 21), hm, rfl⟩)
                    · replace hm := hm.2 hb
                      refine wskip ?_
                      refine region (endP T hS (sp := []) (ks := [1, 2, 3, 4, 13, 14, 15]) (bs := [5, 15]) (sy' := ⟨[(1, V (.slice a2 l_.length c2)), (2, I state_108), (3, V (.slice a3 picks.length c3)), (4, Pt 5 0), (13, I i_110), (14, Pt 15 0), (15, I (IntKind.i64.wrap (k_149 + 1)))], [(5, (24, [I o_.States, I o_.Kinds, I o_.Init, V (.slice a1 o_.Rows.length c1)])), (15, (52, [I ((gi picks i_110).Oper), I ((gi picks i_110).Result)]))]⟩) (by kernel_rfl) ?_)
                      intro a hS
                      exact ⟨IntKind.i64.wrap (k_149 + 1), ⟨ρ, _, hm.1, hS.sel [1, 2, 3, 4, 13, 14, 15] [5, 15] (by kernel_rfl), hO, h147, h148, h150⟩, hm.2⟩
                  · replace hm := hm.2 hb
                    refine wexit (by rfl) ?_
                    exact ⟨ρ, _, hm, hS.sel [1, 2, 3, 4, 13, 14] [5, 15] (by kernel_rfl), hO, h147, h148, h150⟩
              · rintro a w161 ⟨ρ, χ160, hm, hS, hO, h115, h116, h117⟩
                unfold VC15_J2 at hm
                refine drawnSX [5, 15] mixed hS ?_
                intro w118 χ119 hS hE hD hH
                replace hO := hO.mv hE rfl rfl
                replace h115 := h115.mv hE rfl
                replace h116 := h116.mv hE rfl
                replace h117 := h117.mv hE rfl
                clear hE
                refine take T [0, 1, 2, 3, 8, 4, 9] [5, 15] [1, 3, 4, 13, 14, 69, 70, 71, 73, 78] hS (by kernel_rfl) (by kernel_rfl) (by kernel_rfl) hH (listed' := #[true, true, true, true, true, false, false, false, true, true, false, false, false, false, false, false]) (fuel := 9) (sy' := ⟨[(1, V (.slice a2 l_.length c2)), (3, V (.slice a3 picks.length c3)), (4, Pt 5 0), (13, I i_110), (14, Pt 15 0), (69, V (.agg #[.int .i64 o_.States, .int .i64 o_.Kinds, .int .i64 o_.Init, .slice a1 o_.Rows.length c1])), (70, I state_108), (71, V (.slice a2 l_.length c2)), (73, I ((gi picks i_110).Oper)), (78, I ((gi picks i_110).Result))], [(5, (24, [I o_.States, I o_.Kinds, I o_.Init, V (.slice a1 o_.Rows.length c1)])), (15, (52, [I ((gi picks i_110).Oper), I ((gi picks i_110).Result)]))]⟩) (by kernel_rfl) (by rfl) ?_
                intro a hS
                obtain ⟨hq, hm⟩ := hm
                refine dindex (e := 54) (k := .i64) T 5 hS (by kernel_rfl) (by kernel_rfl) (by kernel_rfl) (by rfl) (by kernel_rfl) hH (by kernel_rfl) (by kernel_rfl) h115 (by kernel_rfl) (by kernel_rfl) hq.1 hq.2 ?_
                intro A120 a h121 hS
                clear hq
                have h121b := h121.here
                refine dfieldA (off := 1) (fsz := 1) (ft := 3) (TF := tI) (y := (gi l_ ((gi picks i_110).Oper)).Kind) 6 T hS (by kernel_rfl) (by kernel_rfl) (by kernel_rfl) (by rfl) (by kernel_rfl) hH (by kernel_rfl) h121 (by kernel_rfl) (by kernel_rfl) (by kernel_rfl) (fun cs h => Api_Oper_f1 h) ?_
                intro A122 a h123 hbl hS
                have h123b := h121b
                rw [← hbl] at h123b
                clear hbl
                refine dload1 T 7 hS (by kernel_rfl) (by kernel_rfl) (by kernel_rfl) (by rfl) (by kernel_rfl) hH (by kernel_rfl) h123 h123b rfl (by kernel_rfl) ?_
                intro v124 a hv hS
                cases hv
                refine only 10 (by kernel_rfl) (by rfl) (call hS (by kernel_rfl) (by kernel_rfl) hb18 (by kernel_rfl) (fun _ _ => rfl) (k18 _ _ o_ state_108 ((gi l_ ((gi picks i_110).Oper)).Kind) ((gi picks i_110).Result) a1 c1 h117) ?_)
                intro v125 a w126 χ127 hE hp hS
                replace hO := hO.mv hE rfl rfl
                replace hD := hD.ev hE rfl
                replace h115 := h115.mv hE rfl
                replace h116 := h116.mv hE rfl
                replace h117 := h117.mv hE rfl
                replace h121 := h121.mv hE rfl
                replace h123 := h123.mv hE rfl
                clear hE
                obtain ⟨r128, hr⟩ : ∃ r, ref28_Step o_ state_108 ((gi l_ ((gi picks i_110).Oper)).Kind) ((gi picks i_110).Result) = r := ⟨_, rfl⟩
                replace hm := hm r128 hr
                rw [hr] at hp
                clear hr
                subst hp
                replace hS := hS.sel [1, 3, 4, 13, 14, 69, 70, 71, 73, 78, 74, 75, 76, 79] [5, 15] (sy' := ⟨[(1, V (.slice a2 l_.length c2)), (3, V (.slice a3 picks.length c3)), (4, Pt 5 0), (13, I i_110), (14, Pt 15 0), (69, V (.agg #[.int .i64 o_.States, .int .i64 o_.Kinds, .int .i64 o_.Init, .slice a1 o_.Rows.length c1])), (70, I state_108), (71, V (.slice a2 l_.length c2)), (73, I ((gi picks i_110).Oper)), (78, I ((gi picks i_110).Result)), (74, V (.pointer (some A120))), (75, V (.pointer (some A122))), (76, I ((gi l_ ((gi picks i_110).Oper)).Kind)), (79, V (.tuple #[.int .i64 r128.1, .int .i64 r128.2]))], [(5, (24, [I o_.States, I o_.Kinds, I o_.Init, V (.slice a1 o_.Rows.length c1)])), (15, (52, [I ((gi picks i_110).Oper), I ((gi picks i_110).Result)]))]⟩) (by kernel_rfl)
                refine andH (Hold.of hS (bks := [5, 15]) (by kernel_rfl) hD) ?_
                intro hH
                refine take T [11, 12, 13, 14, 15] [5, 15] [1, 3, 4, 13, 14, 16, 17] hS (by kernel_rfl) (by kernel_rfl) (by kernel_rfl) hH (listed' := #[true, true, true, true, true, true, true, true, true, true, true, true, true, true, true, true]) (fuel := 0) (sy' := ⟨[(1, V (.slice a2 l_.length c2)), (3, V (.slice a3 picks.length c3)), (4, Pt 5 0), (13, I i_110), (14, Pt 15 0), (16, I r128.1), (17, I r128.2)], [(5, (24, [I o_.States, I o_.Kinds, I o_.Init, V (.slice a1 o_.Rows.length c1)])), (15, (52, [I ((gi picks i_110).Oper), I ((gi picks i_110).Result)]))]⟩) (by kernel_rfl) (by rfl) ?_
                intro a hS
                refine drawnDone (by kernel_rfl) ?_
                clear hD hH
                replace hS := hS.sel [1, 3, 4, 13, 14, 16, 17] [5, 15] (sy' := ⟨[(1, V (.slice a2 l_.length c2)), (3, V (.slice a3 picks.length c3)), (4, Pt 5 0), (13, I i_110), (14, Pt 15 0), (16, I r128.1), (17, I r128.2)], [(5, (24, [I o_.States, I o_.Kinds, I o_.Init, V (.slice a1 o_.Rows.length c1)])), (15, (52, [I ((gi picks i_110).Oper), I ((gi picks i_110).Result)]))]⟩) (by kernel_rfl)
                refine wseq ?_
                refine regP T hS (sp := []) (ks := [1, 3, 4, 13, 14, 16, 17, 83]) (bs := [5, 15]) (sy' := ⟨[(1, V (.slice a2 l_.length c2)), (3, V (.slice a3 picks.length c3)), (4, Pt 5 0), (13, I i_110), (14, Pt 15 0), (16, I r128.1), (17, I r128.2), (83, B (r128.2 != 0))], [(5, (24, [I o_.States, I o_.Kinds, I o_.Init, V (.slice a1 o_.Rows.length c1)])), (15, (52, [I ((gi picks i_110).Oper), I ((gi picks i_110).Result)]))]⟩) (by kernel_rfl) ?_
                intro a hS
                refine wcond hS (b := (r128.2 != 0)) (by kernel_rfl) (fun hb => ?_) (fun hb => ?_)
                · replace hm := hm.1 hb
                  refine regP T hS (sp := []) (ks := [8, 9, 10]) (bs := []) (sy' := ⟨[(8, I 0), (9, I i_110), (10, I r128.2)], []⟩) (by kernel_rfl) ?_
                  intro a hS
                  refine wret ?_
                  exact fin T hS hO (fun c => c) rfl (r := [.int .i64 0, .int .i64 i_110, .int .i64 r128.2]) (by kernel_rfl) (fun χ' hM hC => ⟨(0, i_110, r128.2), hm, rfl⟩)
                · replace hm := hm.2 hb
                  refine wskip ?_
                  refine wseq ?_
                  refine wcut (fun a w => ∃ (ρ : Nat → Nat) (χ : Nat → Nat) (x_131 : Bool), VC15_J3 Q I1 μ1 state_108 i_110 r128 x_131 ∧ St Try.f15.ntmps ⟨[(1, V (.slice a2 l_.length c2)), (3, V (.slice a3 picks.length c3)), (4, Pt 5 0), (13, I i_110), (16, I r128.1), (103, B x_131)], [(5, (24, [I o_.States, I o_.Kinds, I o_.Init, V (.slice a1 o_.Rows.length c1)]))]⟩ ρ a w χ ∧ Old w0 χ0 w χ ∧ RS tApi_Oper w χ a2 l_ c2 ∧ RS tApi_Pick w χ a3 picks c3 ∧ RS tApi_Row w χ a1 o_.Rows c1) ?_ ?_
                  · refine drawnX [5, 15] mixed hS ?_
                    intro w133 χ134 hS hE hD hH
                    replace hO := hO.mv hE rfl rfl
                    replace h115 := h115.mv hE rfl
                    replace h116 := h116.mv hE rfl
                    replace h117 := h117.mv hE rfl
                    clear hE
                    refine take T [0, 1, 2] [5, 15] [1, 3, 4, 13, 14, 16, 86, 88] hS (by kernel_rfl) (by kernel_rfl) (by kernel_rfl) hH (listed' := #[true, true, true, false, false, false, false, false, false, false, false, false, false, false, false, false, false, false]) (fuel := 15) (sy' := ⟨[(1, V (.slice a2 l_.length c2)), (3, V (.slice a3 picks.length c3)), (4, Pt 5 0), (13, I i_110), (14, Pt 15 0), (16, I r128.1), (86, V (.slice a2 l_.length c2)), (88, I ((gi picks i_110).Oper))], [(5, (24, [I o_.States, I o_.Kinds, I o_.Init, V (.slice a1 o_.Rows.length c1)])), (15, (52, [I ((gi picks i_110).Oper), I ((gi picks i_110).Result)]))]⟩) (by kernel_rfl) (by rfl) ?_
                    intro a hS
                    obtain ⟨hq, hm⟩ := hm
                    refine dindex (e := 54) (k := .i64) T 3 hS (by kernel_rfl) (by kernel_rfl) (by kernel_rfl) (by rfl) (by kernel_rfl) hH (by kernel_rfl) (by kernel_rfl) h115 (by kernel_rfl) (by kernel_rfl) hq.1 hq.2 ?_
                    intro A135 a h136 hS
                    clear hq
                    have h136b := h136.here
                    refine dfieldA (off := 3) (fsz := 1) (ft := 3) (TF := tI) (y := (gi l_ ((gi picks i_110).Oper)).End) 4 T hS (by kernel_rfl) (by kernel_rfl) (by kernel_rfl) (by rfl) (by kernel_rfl) hH (by kernel_rfl) h136 (by kernel_rfl) (by kernel_rfl) (by kernel_rfl) (fun cs h => Api_Oper_f3 h) ?_
                    intro A137 a h138 hbl hS
                    have h138b := h136b
                    rw [← hbl] at h138b
                    clear hbl
                    refine dload1 T 5 hS (by kernel_rfl) (by kernel_rfl) (by kernel_rfl) (by rfl) (by kernel_rfl) hH (by kernel_rfl) h138 h138b rfl (by kernel_rfl) ?_
                    intro v139 a hv hS
                    cases hv
                    refine take T [6, 7] [5, 15] [1, 3, 4, 13, 14, 16, 93] hS (by kernel_rfl) (by kernel_rfl) (by kernel_rfl) hH (listed' := #[true, true, true, true, true, true, true, true, false, false, false, false, false, false, false, false, false, false]) (fuel := 10) (sy' := ⟨[(1, V (.slice a2 l_.length c2)), (3, V (.slice a3 picks.length c3)), (4, Pt 5 0), (13, I i_110), (14, Pt 15 0), (16, I r128.1), (93, B (((gi l_ ((gi picks i_110).Oper)).End) != (-1)))], [(5, (24, [I o_.States, I o_.Kinds, I o_.Init, V (.slice a1 o_.Rows.length c1)])), (15, (52, [I ((gi picks i_110).Oper), I ((gi picks i_110).Result)]))]⟩) (by kernel_rfl) (by rfl) ?_
                    intro a hS
                    rcases Bool.eq_false_or_eq_true (((gi l_ ((gi picks i_110).Oper)).End) != (-1)) with hb | hb
                    · replace hS := hS.lit (t := 93) (by kernel_rfl) hb
                      replace hm := hm.1 hb
                      refine take T [8, 9, 14, 10, 15] [5, 15] [1, 3, 4, 13, 16, 93, 94, 95, 96, 100, 101] hS (by kernel_rfl) (by kernel_rfl) (by kernel_rfl) hH (listed' := #[true, true, true, true, true, true, true, true, true, true, true, false, false, false, true, true, false, false]) (fuel := 5) (sy' := ⟨[(1, V (.slice a2 l_.length c2)), (3, V (.slice a3 picks.length c3)), (4, Pt 5 0), (13, I i_110), (16, I r128.1), (93, B true), (94, V (.slice a2 l_.length c2)), (95, Pt 15 0), (96, I ((gi picks i_110).Oper)), (100, Pt 15 1), (101, I ((gi picks i_110).Result))], [(5, (24, [I o_.States, I o_.Kinds, I o_.Init, V (.slice a1 o_.Rows.length c1)])), (15, (52, [I ((gi picks i_110).Oper), I ((gi picks i_110).Result)]))]⟩) (by kernel_rfl) (by rfl) ?_
                      intro a hS
                      obtain ⟨hq, hm⟩ := hm
                      refine dindex (e := 54) (k := .i64) T 11 hS (by kernel_rfl) (by kernel_rfl) (by kernel_rfl) (by rfl) (by kernel_rfl) hH (by kernel_rfl) (by kernel_rfl) h115 (by kernel_rfl) (by kernel_rfl) hq.1 hq.2 ?_
                      intro A140 a h141 hS
                      clear hq
                      have h141b := h141.here
                      refine dfieldA (off := 4) (fsz := 1) (ft := 3) (TF := tI) (y := (gi l_ ((gi picks i_110).Oper)).Result) 12 T hS (by kernel_rfl) (by kernel_rfl) (by kernel_rfl) (by rfl) (by kernel_rfl) hH (by kernel_rfl) h141 (by kernel_rfl) (by kernel_rfl) (by kernel_rfl) (fun cs h => Api_Oper_f4 h) ?_
                      intro A142 a h143 hbl hS
                      have h143b := h141b
                      rw [← hbl] at h143b
                      clear hbl
                      refine dload1 T 13 hS (by kernel_rfl) (by kernel_rfl) (by kernel_rfl) (by rfl) (by kernel_rfl) hH (by kernel_rfl) h143 h143b rfl (by kernel_rfl) ?_
                      intro v144 a hv hS
                      cases hv
                      refine take T [16, 17] [5, 15] [1, 3, 4, 13, 16, 94, 95, 96, 97, 98, 99, 100, 101, 102, 103] hS (by kernel_rfl) (by kernel_rfl) (by kernel_rfl) hH (listed' := #[true, true, true, true, true, true, true, true, true, true, true, true, true, true, true, true, true, true]) (fuel := 0) (sy' := ⟨[(1, V (.slice a2 l_.length c2)), (3, V (.slice a3 picks.length c3)), (4, Pt 5 0), (13, I i_110), (16, I r128.1), (94, V (.slice a2 l_.length c2)), (95, Pt 15 0), (96, I ((gi picks i_110).Oper)), (97, V (.pointer (some A140))), (98, V (.pointer (some A142))), (99, I ((gi l_ ((gi picks i_110).Oper)).Result)), (100, Pt 15 1), (101, I ((gi picks i_110).Result)), (102, B (((gi l_ ((gi picks i_110).Oper)).Result) != ((gi picks i_110).Result))), (103, B (((gi l_ ((gi picks i_110).Oper)).Result) != ((gi picks i_110).Result)))], [(5, (24, [I o_.States, I o_.Kinds, I o_.Init, V (.slice a1 o_.Rows.length c1)])), (15, (52, [I ((gi picks i_110).Oper), I ((gi picks i_110).Result)]))]⟩) (by kernel_rfl) (by rfl) ?_
                      intro a hS
                      refine drawnDone (by kernel_rfl) ?_
                      clear hD hH
                      replace hS := hS.sel [1, 3, 4, 13, 16, 94, 95, 96, 97, 98, 99, 100, 101, 102, 103] [5, 15] (sy' := ⟨[(1, V (.slice a2 l_.length c2)), (3, V (.slice a3 picks.length c3)), (4, Pt 5 0), (13, I i_110), (16, I r128.1), (94, V (.slice a2 l_.length c2)), (95, Pt 15 0), (96, I ((gi picks i_110).Oper)), (97, V (.pointer (some A140))), (98, V (.pointer (some A142))), (99, I ((gi l_ ((gi picks i_110).Oper)).Result)), (100, Pt 15 1), (101, I ((gi picks i_110).Result)), (102, B (((gi l_ ((gi picks i_110).Oper)).Result) != ((gi picks i_110).Result))), (103, B (((gi l_ ((gi picks i_110).Oper)).Result) != ((gi picks i_110).Result)))], [(5, (24, [I o_.States, I o_.Kinds, I o_.Init, V (.slice a1 o_.Rows.length c1)])), (15, (52, [I ((gi picks i_110).Oper), I ((gi picks i_110).Result)]))]⟩) (by kernel_rfl)
                      exact ⟨ρ, _, (((gi l_ ((gi picks i_110).Oper)).Result) != ((gi picks i_110).Result)), hm, hS.sel [1, 3, 4, 13, 16, 103] [5] (by kernel_rfl), hO, h115, h116, h117⟩
                    · replace hS := hS.lit (t := 93) (by kernel_rfl) hb
                      replace hm := hm.2 hb
                      refine take T [8, 9, 14, 10, 15, 11, 12, 13, 16, 17] [5, 15] [1, 3, 4, 13, 16, 94, 95, 96, 97, 98, 99, 100, 101, 102, 103] hS (by kernel_rfl) (by kernel_rfl) (by kernel_rfl) hH (listed' := #[true, true, true, true, true, true, true, true, true, true, true, true, true, true, true, true, true, true]) (fuel := 0) (sy' := ⟨[(1, V (.slice a2 l_.length c2)), (3, V (.slice a3 picks.length c3)), (4, Pt 5 0), (13, I i_110), (16, I r128.1), (94, V undef), (95, V undef), (96, V undef), (97, V undef), (98, V undef), (99, V undef), (100, V undef), (101, V undef), (102, V undef), (103, B false)], [(5, (24, [I o_.States, I o_.Kinds, I o_.Init, V (.slice a1 o_.Rows.length c1)])), (15, (52, [I ((gi picks i_110).Oper), I ((gi picks i_110).Result)]))]⟩) (by kernel_rfl) (by rfl) ?_
                      intro a hS
                      refine drawnDone (by kernel_rfl) ?_
                      clear hD hH
                      replace hS := hS.sel [1, 3, 4, 13, 16, 103] [5] (sy' := ⟨[(1, V (.slice a2 l_.length c2)), (3, V (.slice a3 picks.length c3)), (4, Pt 5 0), (13, I i_110), (16, I r128.1), (103, B false)], [(5, (24, [I o_.States, I o_.Kinds, I o_.Init, V (.slice a1 o_.Rows.length c1)]))]⟩) (by kernel_rfl)
                      exact ⟨ρ, _, false, hm, hS.sel [1, 3, 4, 13, 16, 103] [5] (by kernel_rfl), hO, h115, h116, h117⟩
                  · rintro a w146 ⟨ρ, χ145, x_131, hm, hS, hO, h129, h130, h132⟩
                    unfold VC15_J3 at hm
                    refine wcond hS (b := x_131) (by kernel_rfl) (fun hb => ?_) (fun hb => ?_)
                    · replace hm := hm.1 hb
                      refine regP T hS (sp := []) (ks := [8, 9, 10]) (bs := []) (sy' := ⟨[(8, I 0), (9, I i_110), (10, I 40)], []⟩) (by kernel_rfl) ?_
                      intro a hS
                      refine wret ?_
                      exact fin T hS hO (fun c => c) rfl (r := [.int .i64 0, .int .i64 i_110, .int .i64 40]) (by kernel_rfl) (fun χ' hM hC => ⟨(0, i_110, 40), hm, rfl⟩)
                    · replace hm := hm.2 hb
                      refine wskip ?_
                      refine region (endP T hS (sp := []) (ks := [1, 2, 3, 4, 13]) (bs := [5]) (sy' := ⟨[(1, V (.slice a2 l_.length c2)), (2, I r128.1), (3, V (.slice a3 picks.length c3)), (4, Pt 5 0), (13, I i_110)], [(5, (24, [I o_.States, I o_.Kinds, I o_.Init, V (.slice a1 o_.Rows.length c1)]))]⟩) (by kernel_rfl) ?_)
                      intro a hS
                      refine region (endP T hS (sp := []) (ks := [1, 2, 3, 4, 13]) (bs := [5]) (sy' := ⟨[(1, V (.slice a2 l_.length c2)), (2, I r128.1), (3, V (.slice a3 picks.length c3)), (4, Pt 5 0), (13, I (IntKind.i64.wrap (i_110 + 1)))], [(5, (24, [I o_.States, I o_.Kinds, I o_.Init, V (.slice a1 o_.Rows.length c1)]))]⟩) (by kernel_rfl) ?_)
                      intro a hS
                      exact ⟨⟨r128.1, IntKind.i64.wrap (i_110 + 1)⟩, ⟨ρ, _, hm.1, hS.sel [1, 2, 3, 4, 13] [5] (by kernel_rfl), hO, h129, h130, h132⟩, hm.2⟩
          · replace hm := hm.2 hb
            refine wexit (by rfl) ?_
            exact ⟨ρ, _, state_108, hm, hS.sel [2, 3] [] (by kernel_rfl), hO, h109⟩
      · rintro a w167 ⟨ρ, χ166, state_105, hm, hS, hO, h106⟩
        unfold VC15_J1 at hm
        refine regP T hS (sp := []) (ks := [8, 9, 10]) (bs := []) (sy' := ⟨[(8, I state_105), (9, I ((picks.length : Nat) : Int)), (10, I 0)], []⟩) (by kernel_rfl) ?_
        intro a hS
        refine wret ?_
        exact fin T hS hO (fun c => c) rfl (r := [.int .i64 state_105, .int .i64 ((picks.length : Nat) : Int), .int .i64 0]) (by kernel_rfl) (fun χ' hM hC => ⟨(state_105, ((picks.length : Nat) : Int), 0), hm, rfl⟩)
theorem C15 (k18 : S18) (k43 : S43) (v : ∀ (o_ : Api_Object) (l_ : List Api_Oper) (state : Int) (picks : List Api_Pick), VC15 o_ l_ state picks (fun r => r = ref28_From o_ l_ state picks)) : S15 := by
  intro w χ o_ l_ state picks a1 c1 a2 c2 a3 c3   h1 h2 h3
  refine (W15 k18 k43 w χ o_ l_ state picks a1 c1 a2 c2 a3 c3   _ (v o_ l_ state picks) h1 h2 h3).mono ?_
  rintro _ _ _ _ ⟨r, rfl, h⟩
  exact h
def S57 : Prop := ∀ (w : World) (χ : Nat → Nat) (a_ : Api_Oper) (b_ : Api_Oper), Ret Try.prog 57 #[.agg #[.int .i64 a_.Prc, .int .i64 a_.Kind, .int .i64 a_.Start, .int .i64 a_.End, .int .i64 a_.Result], .agg #[.int .i64 b_.Prc, .int .i64 b_.Kind, .int .i64 b_.Start, .int .i64 b_.End, .int .i64 b_.Result]] xnone w χ (fun w χ' v => v = .bool (ref27_Ahead a_ b_))
theorem hb57 : hasBody Try.prog 57 = true := by kernel_rfl
/-- replevin/replevinref27.Ahead -/
theorem W57 (w0 : World) (χ0 : Nat → Nat) (a_ : Api_Oper) (b_ : Api_Oper) (Q : Bool → Prop) (hm : VC57 a_ b_ Q) :
    Ret Try.prog 57 #[.agg #[.int .i64 a_.Prc, .int .i64 a_.Kind, .int .i64 a_.Start, .int .i64 a_.End, .int .i64 a_.Result], .agg #[.int .i64 b_.Prc, .int .i64 b_.Kind, .int .i64 b_.Start, .int .i64 b_.End, .int .i64 b_.Result]] xnone w0 χ0 (fun w χ' v => ∃ r, Q r ∧ v = .bool r) := by
  unfold VC57 at hm
  refine enter Try.func57 rfl (vals := [.agg #[.int .i64 a_.Prc, .int .i64 a_.Kind, .int .i64 a_.Start, .int .i64 a_.End, .int .i64 a_.Result], .agg #[.int .i64 b_.Prc, .int .i64 b_.Kind, .int .i64 b_.Start, .int .i64 b_.End, .int .i64 b_.Result]]) (by kernel_rfl) ?_
  intro ρ a hS hO hM
  clear hM
  refine regM T hS (sp := []) (ks := [2, 3]) (bs := [3, 4]) (sy' := ⟨[(2, Pt 3 0), (3, Pt 4 0)], [(3, (54, [I a_.Prc, I a_.Kind, I a_.Start, I a_.End, I a_.Result])), (4, (54, [I b_.Prc, I b_.Kind, I b_.Start, I b_.End, I b_.Result]))]⟩) (by kernel_rfl) ?_
  intro ρ a w101 χ102 hS hE hr
  replace hO := hO.mv hE rfl rfl
  clear hE hr
  refine regP T hS (sp := [8]) (ks := [4]) (bs := []) (sy' := ⟨[(4, B ((decide (a_.End ≥ 0)) && (decide (b_.Start > a_.End))))], []⟩) (by kernel_rfl) ?_
  intro a hS
  refine wret ?_
  exact fin T hS hO (fun c => c) rfl (r := [.bool ((decide (a_.End ≥ 0)) && (decide (b_.Start > a_.End)))]) (by kernel_rfl) (fun χ' hM hC => ⟨((decide (a_.End ≥ 0)) && (decide (b_.Start > a_.End))), hm, rfl⟩)
theorem C57 (v : ∀ (a_ : Api_Oper) (b_ : Api_Oper), VC57 a_ b_ (fun r => r = ref27_Ahead a_ b_)) : S57 := by
  intro w χ a_ b_    
  refine (W57 w χ a_ b_    _ (v a_ b_)).mono ?_
  rintro _ _ _ _ ⟨r, rfl, h⟩
  exact h
def S33 : Prop := ∀ (w : World) (χ : Nat → Nat) (o_ : Api_Object) (l_ : List Api_Oper) (picks : List Api_Pick) (a1 : Option Addr) (c1 : Nat) (a2 : Option Addr) (c2 : Nat) (a3 : Option Addr) (c3 : Nat), RS tApi_Row w χ a1 o_.Rows c1 → RS tApi_Oper w χ a2 l_ c2 → RS tApi_Pick w χ a3 picks c3 → Ret Try.prog 33 #[.agg #[.int .i64 o_.States, .int .i64 o_.Kinds, .int .i64 o_.Init, .slice a1 o_.Rows.length c1], .slice a2 l_.length c2, .slice a3 picks.length c3] xnone w χ (fun w χ' v => v = .bool (ref29_Lin o_ l_ picks))
theorem hb33 : hasBody Try.prog 33 = true := by kernel_rfl
/-- replevin/replevinref29.Lin -/
theorem W33 (k15 : S15) (k30 : S30) (k57 : S57) (w0 : World) (χ0 : Nat → Nat) (o_ : Api_Object) (l_ : List Api_Oper) (picks : List Api_Pick) (a1 : Option Addr) (c1 : Nat) (a2 : Option Addr) (c2 : Nat) (a3 : Option Addr) (c3 : Nat) (Q : Bool → Prop) (hm : VC33 o_ l_ picks Q) (h1 : RS tApi_Row w0 χ0 a1 o_.Rows c1) (h2 : RS tApi_Oper w0 χ0 a2 l_ c2) (h3 : RS tApi_Pick w0 χ0 a3 picks c3) :
    Ret Try.prog 33 #[.agg #[.int .i64 o_.States, .int .i64 o_.Kinds, .int .i64 o_.Init, .slice a1 o_.Rows.length c1], .slice a2 l_.length c2, .slice a3 picks.length c3] xnone w0 χ0 (fun w χ' v => ∃ r, Q r ∧ v = .bool r) := by
  unfold VC33 at hm
  replace hm := hm (h1.sm (by kernel_rfl))
  replace hm := hm (h2.sm (by kernel_rfl))
  replace hm := hm (h3.sm (by kernel_rfl))
  refine enter Try.func33 rfl (vals := [.agg #[.int .i64 o_.States, .int .i64 o_.Kinds, .int .i64 o_.Init, .slice a1 o_.Rows.length c1], .slice a2 l_.length c2, .slice a3 picks.length c3]) (by kernel_rfl) ?_
  intro ρ a hS hO hM
  replace h1 := h1.m0 hM
  replace h2 := h2.m0 hM
  replace h3 := h3.m0 hM
  clear hM
  refine regM T hS (sp := []) (ks := [1, 2, 3]) (bs := [4]) (sy' := ⟨[(1, V (.slice a2 l_.length c2)), (2, V (.slice a3 picks.length c3)), (3, Pt 4 0)], [(4, (24, [I o_.States, I o_.Kinds, I o_.Init, V (.slice a1 o_.Rows.length c1)]))]⟩) (by kernel_rfl) ?_
  intro ρ a w160 χ161 hS hE hr
  replace hO := hO.mv hE rfl rfl
  replace h1 := h1.mv hE rfl
  replace h2 := h2.mv hE rfl
  replace h3 := h3.mv hE rfl
  clear hE hr
  refine regO ?_
  refine opsP T hS 5 (sp := []) (ks := [1, 2, 15, 16, 18, 19]) (bs := []) (sy' := ⟨[(1, V (.slice a2 l_.length c2)), (2, V (.slice a3 picks.length c3)), (15, V (.agg #[.int .i64 o_.States, .int .i64 o_.Kinds, .int .i64 o_.Init, .slice a1 o_.Rows.length c1])), (16, V (.slice a2 l_.length c2)), (18, I o_.Init), (19, V (.slice a3 picks.length c3))], []⟩) (by kernel_rfl) ?_
  intro a hS
  refine op1 (call hS (by kernel_rfl) (by kernel_rfl) hb15 (by kernel_rfl) (fun _ _ => rfl) (k15 _ _ o_ l_ o_.Init picks a1 c1 a2 c2 a3 c3 h1 h2 h3) ?_)
  intro v101 a w102 χ103 hE hp hS
  replace hO := hO.mv hE rfl rfl
  replace h1 := h1.mv hE rfl
  replace h2 := h2.mv hE rfl
  replace h3 := h3.mv hE rfl
  clear hE
  obtain ⟨r104, hr⟩ : ∃ r, ref28_From o_ l_ o_.Init picks = r := ⟨_, rfl⟩
  replace hm := hm r104 hr
  rw [hr] at hp
  clear hr
  subst hp
  refine endP T hS (sp := []) (ks := [1, 2, 9]) (bs := []) (sy' := ⟨[(1, V (.slice a2 l_.length c2)), (2, V (.slice a3 picks.length c3)), (9, I r104.2.2)], []⟩) (by kernel_rfl) ?_
  intro a hS
  refine wseq ?_
  refine regP T hS (sp := []) (ks := [1, 2, 25]) (bs := []) (sy' := ⟨[(1, V (.slice a2 l_.length c2)), (2, V (.slice a3 picks.length c3)), (25, B (r104.2.2 != 0))], []⟩) (by kernel_rfl) ?_
  intro a hS
  refine wcond hS (b := (r104.2.2 != 0)) (by kernel_rfl) (fun hb => ?_) (fun hb => ?_)
  · replace hm := hm.1 hb
    refine regP T hS (sp := []) (ks := [6]) (bs := []) (sy' := ⟨[(6, B false)], []⟩) (by kernel_rfl) ?_
    intro a hS
    refine wret ?_
    exact fin T hS hO (fun c => c) rfl (r := [.bool false]) (by kernel_rfl) (fun χ' hM hC => ⟨false, hm, rfl⟩)
  · replace hm := hm.2 hb
    refine wskip ?_
    refine wcut (fun a w => ∃ (ρ : Nat → Nat) (χ : Nat → Nat), VC33_J1 Q ∧ St Try.f33.ntmps ⟨[], []⟩ ρ a w χ ∧ Old w0 χ0 w χ) ?_ ?_
    · refine regP T hS (sp := []) (ks := [1, 2, 10]) (bs := []) (sy' := ⟨[(1, V (.slice a2 l_.length c2)), (2, V (.slice a3 picks.length c3)), (10, I 0)], []⟩) (by kernel_rfl) ?_
      intro a hS
      refine wblock ?_
      obtain ⟨I1, μ1, hm0, hm⟩ := hm
      refine wloop (σ := Int) (fun s a w => ∃ (ρ : Nat → Nat) (χ : Nat → Nat), I1 s ∧ St Try.f33.ntmps ⟨[(1, V (.slice a2 l_.length c2)), (2, V (.slice a3 picks.length c3)), (10, I s)], []⟩ ρ a w χ ∧ Old w0 χ0 w χ ∧ RS tApi_Oper w χ a2 l_ c2 ∧ RS tApi_Pick w χ a3 picks c3) (fun s => μ1 s) (0) ?_ ?_
      · exact ⟨ρ, _, hm0, hS.sel [1, 2, 10] [] (by kernel_rfl), hO, h2, h3⟩
      · rintro i_107 a w157 ⟨ρ, χ156, hI, hS, hO, h105, h106⟩
        replace hm := hm i_107 hI
        clear hI hm0
        refine wseq ?_
        refine regP T hS (sp := []) (ks := [1, 2, 10, 29]) (bs := []) (sy' := ⟨[(1, V (.slice a2 l_.length c2)), (2, V (.slice a3 picks.length c3)), (10, I i_107), (29, B (decide (i_107 < ((l_.length : Nat) : Int))))], []⟩) (by kernel_rfl) ?_
        intro a hS
        refine wcond hS (b := decide (i_107 < ((l_.length : Nat) : Int))) (by kernel_rfl) (fun hb => ?_) (fun hb => ?_)
        · replace hm := hm.1 hb
          refine wskip ?_
          refine wcut (fun a w => ∃ (ρ : Nat → Nat) (χ : Nat → Nat), VC33_J2 I1 μ1 i_107 ∧ St Try.f33.ntmps ⟨[(1, V (.slice a2 l_.length c2)), (2, V (.slice a3 picks.length c3)), (10, I i_107)], []⟩ ρ a w χ ∧ Old w0 χ0 w χ ∧ RS tApi_Oper w χ a2 l_ c2 ∧ RS tApi_Pick w χ a3 picks c3) ?_ ?_
          · refine wblock ?_
            refine wseq ?_
            refine wcut (fun a w => ∃ (ρ : Nat → Nat) (χ : Nat → Nat) (x_112 : Bool), VC33_J3 l_ picks Q I1 μ1 i_107 x_112 ∧ St Try.f33.ntmps ⟨[(1, V (.slice a2 l_.length c2)), (2, V (.slice a3 picks.length c3)), (10, I i_107), (43, B x_112)], []⟩ ρ a w χ ∧ Old w0 χ0 w χ ∧ RS tApi_Oper w χ a2 l_ c2 ∧ RS tApi_Pick w χ a3 picks c3) ?_ ?_
            · refine region ?_
              refine opsP T hS 2 (sp := []) (ks := [1, 2, 10, 32, 33]) (bs := []) (sy' := ⟨[(1, V (.slice a2 l_.length c2)), (2, V (.slice a3 picks.length c3)), (10, I i_107), (32, V (.slice a2 l_.length c2)), (33, I i_107)], []⟩) (by kernel_rfl) ?_
              intro a hS
              obtain ⟨hq, hm⟩ := hm
              refine op1 (index (e := 54) (k := .i64) T hS (by kernel_rfl) (by kernel_rfl) (by kernel_rfl) (by kernel_rfl) h105 (by kernel_rfl) (by kernel_rfl) hq.1 hq.2 ?_)
              intro A143 a h144 hS
              clear hq
              refine op1 (fieldA (off := 3) (fsz := 1) (ft := 3) (TF := tI) (y := (gi l_ i_107).End) T hS (by kernel_rfl) (by kernel_rfl) (by kernel_rfl) h144 (by kernel_rfl) (by kernel_rfl) (by kernel_rfl) (fun cs h => Api_Oper_f3 h) ?_)
              intro A145 a h146 hS
              refine op1 (load1 T hS (by kernel_rfl) (by kernel_rfl) (by kernel_rfl) h146 rfl (by kernel_rfl) ?_)
              intro v147 a hv hS
              cases hv
              refine opsP T hS 2 (sp := []) (ks := [1, 2, 10, 38]) (bs := []) (sy' := ⟨[(1, V (.slice a2 l_.length c2)), (2, V (.slice a3 picks.length c3)), (10, I i_107), (38, B (((gi l_ i_107).End) != (-1)))], []⟩) (by kernel_rfl) ?_
              intro a hS
              rcases Bool.eq_false_or_eq_true (((gi l_ i_107).End) != (-1)) with hb | hb
              · replace hS := hS.lit (t := 38) (by kernel_rfl) hb
                replace hm := hm.1 hb
                refine opsP T hS 2 (sp := []) (ks := [1, 2, 10, 38, 39, 40]) (bs := []) (sy' := ⟨[(1, V (.slice a2 l_.length c2)), (2, V (.slice a3 picks.length c3)), (10, I i_107), (38, B true), (39, V (.slice a3 picks.length c3)), (40, I i_107)], []⟩) (by kernel_rfl) ?_
                intro a hS
                refine op1 (call hS (by kernel_rfl) (by kernel_rfl) hb30 (by kernel_rfl) (fun _ _ => rfl) (k30 _ _ picks i_107 a3 c3 h106) ?_)
                intro v148 a w149 χ150 hE hp hS
                replace hO := hO.mv hE rfl rfl
                replace h105 := h105.mv hE rfl
                replace h106 := h106.mv hE rfl
                clear hE
                obtain ⟨r151, hr⟩ : ∃ r, ref29_Place picks i_107 = r := ⟨_, rfl⟩
                replace hm := hm r151 hr
                rw [hr] at hp
                clear hr
                subst hp
                refine endP T hS (sp := []) (ks := [1, 2, 10, 39, 40, 41, 42, 43]) (bs := []) (sy' := ⟨[(1, V (.slice a2 l_.length c2)), (2, V (.slice a3 picks.length c3)), (10, I i_107), (39, V (.slice a3 picks.length c3)), (40, I i_107), (41, I r151), (42, B (decide (r151 < 0))), (43, B (decide (r151 < 0)))], []⟩) (by kernel_rfl) ?_
                intro a hS
                exact ⟨ρ, _, decide (r151 < 0), hm, hS.sel [1, 2, 10, 43] [] (by kernel_rfl), hO, h105, h106⟩
              · replace hS := hS.lit (t := 38) (by kernel_rfl) hb
                replace hm := hm.2 hb
                refine endP T hS (sp := []) (ks := [1, 2, 10, 43]) (bs := []) (sy' := ⟨[(1, V (.slice a2 l_.length c2)), (2, V (.slice a3 picks.length c3)), (10, I i_107), (43, B false)], []⟩) (by kernel_rfl) ?_
                intro a hS
                exact ⟨ρ, _, false, hm, hS.sel [1, 2, 10, 43] [] (by kernel_rfl), hO, h105, h106⟩
            · rintro a w153 ⟨ρ, χ152, x_112, hm, hS, hO, h110, h111⟩
              unfold VC33_J3 at hm
              refine wcond hS (b := x_112) (by kernel_rfl) (fun hb => ?_) (fun hb => ?_)
              · replace hm := hm.1 hb
                refine regP T hS (sp := []) (ks := [6]) (bs := []) (sy' := ⟨[(6, B false)], []⟩) (by kernel_rfl) ?_
                intro a hS
                refine wret ?_
                exact fin T hS hO (fun c => c) rfl (r := [.bool false]) (by kernel_rfl) (fun χ' hM hC => ⟨false, hm, rfl⟩)
              · replace hm := hm.2 hb
                refine wskip ?_
                refine regP T hS (sp := []) (ks := [1, 2, 10, 11]) (bs := []) (sy' := ⟨[(1, V (.slice a2 l_.length c2)), (2, V (.slice a3 picks.length c3)), (10, I i_107), (11, I 0)], []⟩) (by kernel_rfl) ?_
                intro a hS
                refine wblock ?_
                obtain ⟨I2, μ2, hm0, hm⟩ := hm
                refine wloop (σ := Int) (fun s a w => ∃ (ρ : Nat → Nat) (χ : Nat → Nat), I2 s ∧ St Try.f33.ntmps ⟨[(1, V (.slice a2 l_.length c2)), (2, V (.slice a3 picks.length c3)), (10, I i_107), (11, I s)], []⟩ ρ a w χ ∧ Old w0 χ0 w χ ∧ RS tApi_Oper w χ a2 l_ c2 ∧ RS tApi_Pick w χ a3 picks c3) (fun s => μ2 s) (0) ?_ ?_
                · exact ⟨ρ, _, hm0, hS.sel [1, 2, 10, 11] [] (by kernel_rfl), hO, h110, h111⟩
                · rintro k_115 a w142 ⟨ρ, χ141, hI, hS, hO, h113, h114⟩
                  replace hm := hm k_115 hI
                  clear hI hm0
                  refine wseq ?_
                  refine regP T hS (sp := []) (ks := [1, 2, 10, 11, 47]) (bs := []) (sy' := ⟨[(1, V (.slice a2 l_.length c2)), (2, V (.slice a3 picks.length c3)), (10, I i_107), (11, I k_115), (47, B (decide (k_115 < ((l_.length : Nat) : Int))))], []⟩) (by kernel_rfl) ?_
                  intro a hS
                  refine wcond hS (b := decide (k_115 < ((l_.length : Nat) : Int))) (by kernel_rfl) (fun hb => ?_) (fun hb => ?_)
                  · replace hm := hm.1 hb
                    refine wskip ?_
                    refine wseq ?_
                    refine wblock ?_
                    refine regO ?_
                    refine opsP T hS 2 (sp := []) (ks := [1, 2, 10, 11, 50, 51]) (bs := []) (sy' := ⟨[(1, V (.slice a2 l_.length c2)), (2, V (.slice a3 picks.length c3)), (10, I i_107), (11, I k_115), (50, V (.slice a3 picks.length c3)), (51, I i_107)], []⟩) (by kernel_rfl) ?_
                    intro a hS
                    refine op1 (call hS (by kernel_rfl) (by kernel_rfl) hb30 (by kernel_rfl) (fun _ _ => rfl) (k30 _ _ picks i_107 a3 c3 h114) ?_)
                    intro v116 a w117 χ118 hE hp hS
                    replace hO := hO.mv hE rfl rfl
                    replace h113 := h113.mv hE rfl
                    replace h114 := h114.mv hE rfl
                    clear hE
                    obtain ⟨r119, hr⟩ : ∃ r, ref29_Place picks i_107 = r := ⟨_, rfl⟩
                    replace hm := hm r119 hr
                    rw [hr] at hp
                    clear hr
                    subst hp
                    refine opsP T hS 2 (sp := []) (ks := [1, 2, 10, 11, 52, 53, 54]) (bs := []) (sy' := ⟨[(1, V (.slice a2 l_.length c2)), (2, V (.slice a3 picks.length c3)), (10, I i_107), (11, I k_115), (52, I r119), (53, V (.slice a3 picks.length c3)), (54, I k_115)], []⟩) (by kernel_rfl) ?_
                    intro a hS
                    refine op1 (call hS (by kernel_rfl) (by kernel_rfl) hb30 (by kernel_rfl) (fun _ _ => rfl) (k30 _ _ picks k_115 a3 c3 h114) ?_)
                    intro v120 a w121 χ122 hE hp hS
                    replace hO := hO.mv hE rfl rfl
                    replace h113 := h113.mv hE rfl
                    replace h114 := h114.mv hE rfl
                    clear hE
                    obtain ⟨r123, hr⟩ : ∃ r, ref29_Place picks k_115 = r := ⟨_, rfl⟩
                    replace hm := hm r123 hr
                    rw [hr] at hp
                    clear hr
                    subst hp
                    refine endP T hS (sp := []) (ks := [1, 2, 10, 11, 12, 13]) (bs := []) (sy' := ⟨[(1, V (.slice a2 l_.length c2)), (2, V (.slice a3 picks.length c3)), (10, I i_107), (11, I k_115), (12, I r119), (13, I r123)], []⟩) (by kernel_rfl) ?_
                    intro a hS
                    refine wcut (fun a w => ∃ (ρ : Nat → Nat) (χ : Nat → Nat) (x_126 : Bool), VC33_J4 Q I2 μ2 k_115 x_126 ∧ St Try.f33.ntmps ⟨[(1, V (.slice a2 l_.length c2)), (2, V (.slice a3 picks.length c3)), (10, I i_107), (11, I k_115), (77, B x_126)], []⟩ ρ a w χ ∧ Old w0 χ0 w χ ∧ RS tApi_Oper w χ a2 l_ c2 ∧ RS tApi_Pick w χ a3 picks c3) ?_ ?_
                    · refine drawnX [] mixed hS ?_
                      intro w127 χ128 hS hE hD hH
                      replace hO := hO.mv hE rfl rfl
                      replace h113 := h113.mv hE rfl
                      replace h114 := h114.mv hE rfl
                      clear hE
                      refine take T [0, 1, 4, 5] [] [1, 2, 10, 11, 12, 13, 56, 57, 60, 61] hS (by kernel_rfl) (by kernel_rfl) (by kernel_rfl) hH (listed' := #[true, true, false, false, true, true, false, false, false, false, false, false, false, false, false, false, false, false, false, false, false, false]) (fuel := 18) (sy' := ⟨[(1, V (.slice a2 l_.length c2)), (2, V (.slice a3 picks.length c3)), (10, I i_107), (11, I k_115), (12, I r119), (13, I r123), (56, V (.slice a2 l_.length c2)), (57, I i_107), (60, V (.slice a2 l_.length c2)), (61, I k_115)], []⟩) (by kernel_rfl) (by rfl) ?_
                      intro a hS
                      obtain ⟨hq, hm⟩ := hm
                      refine dindex (e := 54) (k := .i64) T 2 hS (by kernel_rfl) (by kernel_rfl) (by kernel_rfl) (by rfl) (by kernel_rfl) hH (by kernel_rfl) (by kernel_rfl) h113 (by kernel_rfl) (by kernel_rfl) hq.1 hq.2 ?_
                      intro A129 a h130 hS
                      clear hq
                      have h130b := h130.here
                      refine dloadA T 3 hS (by kernel_rfl) (by kernel_rfl) (by kernel_rfl) (by rfl) (by kernel_rfl) hH (by kernel_rfl) h130 h130b (by kernel_rfl) (by kernel_rfl) ?_
                      intro v131 a hv hS
                      subst hv
                      obtain ⟨hq, hm⟩ := hm
                      refine dindex (e := 54) (k := .i64) T 6 hS (by kernel_rfl) (by kernel_rfl) (by kernel_rfl) (by rfl) (by kernel_rfl) hH (by kernel_rfl) (by kernel_rfl) h113 (by kernel_rfl) (by kernel_rfl) hq.1 hq.2 ?_
                      intro A132 a h133 hS
                      clear hq
                      have h133b := h133.here
                      refine dloadA T 7 hS (by kernel_rfl) (by kernel_rfl) (by kernel_rfl) (by rfl) (by kernel_rfl) hH (by kernel_rfl) h133 h133b (by kernel_rfl) (by kernel_rfl) ?_
                      intro v134 a hv hS
                      subst hv
                      refine only 8 (by kernel_rfl) (by rfl) (call hS (by kernel_rfl) (by kernel_rfl) hb57 (by kernel_rfl) (fun _ _ => rfl) (k57 _ _ (gi l_ i_107) (gi l_ k_115)) ?_)
                      intro v135 a w136 χ137 hE hp hS
                      replace hO := hO.mv hE rfl rfl
                      replace hD := hD.ev hE rfl
                      replace h113 := h113.mv hE rfl
                      replace h114 := h114.mv hE rfl
                      replace h130 := h130.mv hE rfl
                      replace h133 := h133.mv hE rfl
                      clear hE
                      obtain ⟨r138, hr⟩ : ∃ r, ref27_Ahead (gi l_ i_107) (gi l_ k_115) = r := ⟨_, rfl⟩
                      replace hm := hm r138 hr
                      rw [hr] at hp
                      clear hr
                      subst hp
                      refine andH (Hold.of hS (bks := []) (by kernel_rfl) hD) ?_
                      intro hH
                      refine take T [9] [] [1, 2, 10, 11, 12, 13, 65] hS (by kernel_rfl) (by kernel_rfl) (by kernel_rfl) hH (listed' := #[true, true, true, true, true, true, true, true, true, true, false, false, false, false, false, false, false, false, false, false, false, false]) (fuel := 12) (sy' := ⟨[(1, V (.slice a2 l_.length c2)), (2, V (.slice a3 picks.length c3)), (10, I i_107), (11, I k_115), (12, I r119), (13, I r123), (65, B r138)], []⟩) (by kernel_rfl) (by rfl) ?_
                      intro a hS
                      rcases Bool.eq_false_or_eq_true r138 with hb | hb
                      · replace hS := hS.lit (t := 65) (by kernel_rfl) hb
                        replace hm := hm.1 hb
                        refine take T [10, 11, 12, 13] [] [1, 2, 10, 11, 12, 13, 66, 67, 69] hS (by kernel_rfl) (by kernel_rfl) (by kernel_rfl) hH (listed' := #[true, true, true, true, true, true, true, true, true, true, true, true, true, true, false, false, false, false, false, false, false, false]) (fuel := 8) (sy' := ⟨[(1, V (.slice a2 l_.length c2)), (2, V (.slice a3 picks.length c3)), (10, I i_107), (11, I k_115), (12, I r119), (13, I r123), (66, I r123), (67, B (decide (r123 ≥ 0))), (69, B (decide (r123 ≥ 0)))], []⟩) (by kernel_rfl) (by rfl) ?_
                        intro a hS
                        rcases Bool.eq_false_or_eq_true (decide (r123 ≥ 0)) with hb | hb
                        · replace hS := hS.lit (t := 69) (by kernel_rfl) hb
                          replace hm := hm.1 hb
                          refine take T [14, 15, 16] [] [1, 2, 10, 11, 12, 13, 66, 67, 69, 70, 71, 72] hS (by kernel_rfl) (by kernel_rfl) (by kernel_rfl) hH (listed' := #[true, true, true, true, true, true, true, true, true, true, true, true, true, true, true, true, true, false, false, false, false, false]) (fuel := 5) (sy' := ⟨[(1, V (.slice a2 l_.length c2)), (2, V (.slice a3 picks.length c3)), (10, I i_107), (11, I k_115), (12, I r119), (13, I r123), (66, I r123), (67, B (decide (r123 ≥ 0))), (69, B true), (70, I r119), (71, B (decide (r119 < 0))), (72, B (decide (r119 < 0)))], []⟩) (by kernel_rfl) (by rfl) ?_
                          intro a hS
                          rcases Bool.eq_false_or_eq_true (decide (r119 < 0)) with hb | hb
                          · replace hS := hS.lit (t := 72) (by kernel_rfl) hb
                            replace hm := hm.1 hb
                            refine take T [17, 18, 19, 20, 21] [] [1, 2, 10, 11, 66, 67, 70, 71, 72, 73, 74, 75, 76, 77] hS (by kernel_rfl) (by kernel_rfl) (by kernel_rfl) hH (listed' := #[true, true, true, true, true, true, true, true, true, true, true, true, true, true, true, true, true, true, true, true, true, true]) (fuel := 0) (sy' := ⟨[(1, V (.slice a2 l_.length c2)), (2, V (.slice a3 picks.length c3)), (10, I i_107), (11, I k_115), (66, I r123), (67, B (decide (r123 ≥ 0))), (70, I r119), (71, B (decide (r119 < 0))), (72, B true), (73, V undef), (74, V undef), (75, V undef), (76, B true), (77, B true)], []⟩) (by kernel_rfl) (by rfl) ?_
                            intro a hS
                            refine drawnDone (by kernel_rfl) ?_
                            clear hD hH
                            replace hS := hS.sel [1, 2, 10, 11, 66, 67, 70, 71, 72, 76, 77] [] (sy' := ⟨[(1, V (.slice a2 l_.length c2)), (2, V (.slice a3 picks.length c3)), (10, I i_107), (11, I k_115), (66, I r123), (67, B (decide (r123 ≥ 0))), (70, I r119), (71, B (decide (r119 < 0))), (72, B true), (76, B true), (77, B true)], []⟩) (by kernel_rfl)
                            exact ⟨ρ, _, true, hm, hS.sel [1, 2, 10, 11, 77] [] (by kernel_rfl), hO, h113, h114⟩
                          · replace hS := hS.lit (t := 72) (by kernel_rfl) hb
                            replace hm := hm.2 hb
                            refine take T [17, 18, 19, 20, 21] [] [1, 2, 10, 11, 66, 67, 70, 71, 72, 73, 74, 75, 76, 77] hS (by kernel_rfl) (by kernel_rfl) (by kernel_rfl) hH (listed' := #[true, true, true, true, true, true, true, true, true, true, true, true, true, true, true, true, true, true, true, true, true, true]) (fuel := 0) (sy' := ⟨[(1, V (.slice a2 l_.length c2)), (2, V (.slice a3 picks.length c3)), (10, I i_107), (11, I k_115), (66, I r123), (67, B (decide (r123 ≥ 0))), (70, I r119), (71, B (decide (r119 < 0))), (72, B false), (73, I r119), (74, I r123), (75, B (decide (r119 > r123))), (76, B (decide (r119 > r123))), (77, B (decide (r119 > r123)))], []⟩) (by kernel_rfl) (by rfl) ?_
                            intro a hS
                            refine drawnDone (by kernel_rfl) ?_
                            clear hD hH
                            replace hS := hS.sel [1, 2, 10, 11, 66, 67, 70, 71, 72, 73, 74, 75, 76, 77] [] (sy' := ⟨[(1, V (.slice a2 l_.length c2)), (2, V (.slice a3 picks.length c3)), (10, I i_107), (11, I k_115), (66, I r123), (67, B (decide (r123 ≥ 0))), (70, I r119), (71, B (decide (r119 < 0))), (72, B false), (73, I r119), (74, I r123), (75, B (decide (r119 > r123))), (76, B (decide (r119 > r123))), (77, B (decide (r119 > r123)))], []⟩) (by kernel_rfl)
                            exact ⟨ρ, _, decide (r119 > r123), hm, hS.sel [1, 2, 10, 11, 77] [] (by kernel_rfl), hO, h113, h114⟩
                        · replace hS := hS.lit (t := 69) (by kernel_rfl) hb
                          replace hm := hm.2 hb
                          refine take T [14, 15, 16, 17, 18, 19, 20, 21] [] [1, 2, 10, 11, 66, 67, 70, 71, 72, 73, 74, 75, 76, 77] hS (by kernel_rfl) (by kernel_rfl) (by kernel_rfl) hH (listed' := #[true, true, true, true, true, true, true, true, true, true, true, true, true, true, true, true, true, true, true, true, true, true]) (fuel := 0) (sy' := ⟨[(1, V (.slice a2 l_.length c2)), (2, V (.slice a3 picks.length c3)), (10, I i_107), (11, I k_115), (66, I r123), (67, B (decide (r123 ≥ 0))), (70, V undef), (71, V undef), (72, V undef), (73, V undef), (74, V undef), (75, V undef), (76, V undef), (77, B false)], []⟩) (by kernel_rfl) (by rfl) ?_
                          intro a hS
                          refine drawnDone (by kernel_rfl) ?_
                          clear hD hH
                          replace hS := hS.sel [1, 2, 10, 11, 66, 67, 77] [] (sy' := ⟨[(1, V (.slice a2 l_.length c2)), (2, V (.slice a3 picks.length c3)), (10, I i_107), (11, I k_115), (66, I r123), (67, B (decide (r123 ≥ 0))), (77, B false)], []⟩) (by kernel_rfl)
                          exact ⟨ρ, _, false, hm, hS.sel [1, 2, 10, 11, 77] [] (by kernel_rfl), hO, h113, h114⟩
                      · replace hS := hS.lit (t := 65) (by kernel_rfl) hb
                        replace hm := hm.2 hb
                        refine take T [10, 11, 12, 13, 14, 15, 16, 17, 18, 19, 20, 21] [] [1, 2, 10, 11, 66, 67, 70, 71, 72, 73, 74, 75, 76, 77] hS (by kernel_rfl) (by kernel_rfl) (by kernel_rfl) hH (listed' := #[true, true, true, true, true, true, true, true, true, true, true, true, true, true, true, true, true, true, true, true, true, true]) (fuel := 0) (sy' := ⟨[(1, V (.slice a2 l_.length c2)), (2, V (.slice a3 picks.length c3)), (10, I i_107), (11, I k_115), (66, V undef), (67, V undef), (70, V undef), (71, V undef), (72, V undef), (73, V undef), (74, V undef), (75, V undef), (76, V undef), (77, B false)], []⟩) (by kernel_rfl) (by rfl) ?_
                        intro a hS
                        refine drawnDone (by kernel_rfl) ?_
                        clear hD hH
                        replace hS := hS.sel [1, 2, 10, 11, 77] [] (sy' := ⟨[(1, V (.slice a2 l_.length c2)), (2, V (.slice a3 picks.length c3)), (10, I i_107), (11, I k_115), (77, B false)], []⟩) (by kernel_rfl)
                        exact ⟨ρ, _, false, hm, hS.sel [1, 2, 10, 11, 77] [] (by kernel_rfl), hO, h113, h114⟩
                    · rintro a w140 ⟨ρ, χ139, x_126, hm, hS, hO, h124, h125⟩
                      unfold VC33_J4 at hm
                      refine wcond hS (b := x_126) (by kernel_rfl) (fun hb => ?_) (fun hb => ?_)
                      · replace hm := hm.1 hb
                        refine regP T hS (sp := []) (ks := [6]) (bs := []) (sy' := ⟨[(6, B false)], []⟩) (by kernel_rfl) ?_
                        intro a hS
                        refine wret ?_
                        exact fin T hS hO (fun c => c) rfl (r := [.bool false]) (by kernel_rfl) (fun χ' hM hC => ⟨false, hm, rfl⟩)
                      · replace hm := hm.2 hb
                        refine wskip ?_
                        refine region (endP T hS (sp := []) (ks := [1, 2, 10, 11]) (bs := []) (sy' := ⟨[(1, V (.slice a2 l_.length c2)), (2, V (.slice a3 picks.length c3)), (10, I i_107), (11, I (IntKind.i64.wrap (k_115 + 1)))], []⟩) (by kernel_rfl) ?_)
                        intro a hS
                        exact ⟨IntKind.i64.wrap (k_115 + 1), ⟨ρ, _, hm.1, hS.sel [1, 2, 10, 11] [] (by kernel_rfl), hO, h124, h125⟩, hm.2⟩
                  · replace hm := hm.2 hb
                    refine wexit (by rfl) ?_
                    exact ⟨ρ, _, hm, hS.sel [1, 2, 10] [] (by kernel_rfl), hO, h113, h114⟩
          · rintro a w155 ⟨ρ, χ154, hm, hS, hO, h108, h109⟩
            unfold VC33_J2 at hm
            refine region (endP T hS (sp := []) (ks := [1, 2, 10]) (bs := []) (sy' := ⟨[(1, V (.slice a2 l_.length c2)), (2, V (.slice a3 picks.length c3)), (10, I (IntKind.i64.wrap (i_107 + 1)))], []⟩) (by kernel_rfl) ?_)
            intro a hS
            exact ⟨IntKind.i64.wrap (i_107 + 1), ⟨ρ, _, hm.1, hS.sel [1, 2, 10] [] (by kernel_rfl), hO, h108, h109⟩, hm.2⟩
        · replace hm := hm.2 hb
          refine wexit (by rfl) ?_
          exact ⟨ρ, _, hm, hS.sel [] [] (by kernel_rfl), hO⟩
    · rintro a w159 ⟨ρ, χ158, hm, hS, hO⟩
      unfold VC33_J1 at hm
      refine regP T hS (sp := []) (ks := [6]) (bs := []) (sy' := ⟨[(6, B true)], []⟩) (by kernel_rfl) ?_
      intro a hS
      refine wret ?_
      exact fin T hS hO (fun c => c) rfl (r := [.bool true]) (by kernel_rfl) (fun χ' hM hC => ⟨true, hm, rfl⟩)
theorem C33 (k15 : S15) (k30 : S30) (k57 : S57) (v : ∀ (o_ : Api_Object) (l_ : List Api_Oper) (picks : List Api_Pick), VC33 o_ l_ picks (fun r => r = ref29_Lin o_ l_ picks)) : S33 := by
  intro w χ o_ l_ picks a1 c1 a2 c2 a3 c3   h1 h2 h3
  refine (W33 k15 k30 k57 w χ o_ l_ picks a1 c1 a2 c2 a3 c3   _ (v o_ l_ picks) h1 h2 h3).mono ?_
  rintro _ _ _ _ ⟨r, rfl, h⟩
  exact h
/-- replevin/replevinlaw29.WitnessOrder -/
theorem W7 (k12 : S12) (k25 : S25) (k26 : S26) (k27 : S27) (k28 : S28) (k29 : S29) (k30 : S30) (w0 : World) (χ0 : Nat → Nat) (o_ : Api_Object) (l_ : List Api_Oper) (picks : List Api_Pick) (a1 : Option Addr) (c1 : Nat) (a2 : Option Addr) (c2 : Nat) (a3 : Option Addr) (c3 : Nat) (Q : Bool → Prop) (hm : VC7 o_ l_ picks Q) (h1 : RS tApi_Row w0 χ0 a1 o_.Rows c1) (h2 : RS tApi_Oper w0 χ0 a2 l_ c2) (h3 : RS tApi_Pick w0 χ0 a3 picks c3) :
    Ret Try.prog 7 #[.agg #[.int .i64 o_.States, .int .i64 o_.Kinds, .int .i64 o_.Init, .slice a1 o_.Rows.length c1], .slice a2 l_.length c2, .slice a3 picks.length c3] xnone w0 χ0 (fun w χ' v => ∃ r, Q r ∧ v = .bool r) := by
  unfold VC7 at hm
  replace hm := hm (h1.sm (by kernel_rfl))
  replace hm := hm (h2.sm (by kernel_rfl))
  replace hm := hm (h3.sm (by kernel_rfl))
  refine enter Try.func7 rfl (vals := [.agg #[.int .i64 o_.States, .int .i64 o_.Kinds, .int .i64 o_.Init, .slice a1 o_.Rows.length c1], .slice a2 l_.length c2, .slice a3 picks.length c3]) (by kernel_rfl) ?_
  intro ρ a hS hO hM
  replace h1 := h1.m0 hM
  replace h2 := h2.m0 hM
  replace h3 := h3.m0 hM
  clear hM
  refine regM T hS (sp := []) (ks := [1, 2, 3]) (bs := [4]) (sy' := ⟨[(1, V (.slice a2 l_.length c2)), (2, V (.slice a3 picks.length c3)), (3, Pt 4 0)], [(4, (24, [I o_.States, I o_.Kinds, I o_.Init, V (.slice a1 o_.Rows.length c1)]))]⟩) (by kernel_rfl) ?_
  intro ρ a w178 χ179 hS hE hr
  replace hO := hO.mv hE rfl rfl
  replace h1 := h1.mv hE rfl
  replace h2 := h2.mv hE rfl
  replace h3 := h3.mv hE rfl
  clear hE hr
  refine wseq ?_
  refine wcut (fun a w => ∃ (ρ : Nat → Nat) (χ : Nat → Nat) (x_103 : Bool), VC7_J1 l_ picks Q x_103 ∧ St Try.f7.ntmps ⟨[(1, V (.slice a2 l_.length c2)), (2, V (.slice a3 picks.length c3)), (30, B x_103)], []⟩ ρ a w χ ∧ Old w0 χ0 w χ ∧ RS tApi_Oper w χ a2 l_ c2 ∧ RS tApi_Pick w χ a3 picks c3) ?_ ?_
  · refine region ?_
    refine opsP T hS 1 (sp := []) (ks := [1, 2, 3, 11]) (bs := [4]) (sy' := ⟨[(1, V (.slice a2 l_.length c2)), (2, V (.slice a3 picks.length c3)), (3, Pt 4 0), (11, V (.agg #[.int .i64 o_.States, .int .i64 o_.Kinds, .int .i64 o_.Init, .slice a1 o_.Rows.length c1]))], [(4, (24, [I o_.States, I o_.Kinds, I o_.Init, V (.slice a1 o_.Rows.length c1)]))]⟩) (by kernel_rfl) ?_
    intro a hS
    refine op1 (call hS (by kernel_rfl) (by kernel_rfl) hb12 (by kernel_rfl) (fun _ _ => rfl) (k12 _ _ o_ a1 c1 h1) ?_)
    intro v168 a w169 χ170 hE hp hS
    replace hO := hO.mv hE rfl rfl
    replace h1 := h1.mv hE rfl
    replace h2 := h2.mv hE rfl
    replace h3 := h3.mv hE rfl
    clear hE
    obtain ⟨r171, hr⟩ : ∃ r, law23_Few o_ = r := ⟨_, rfl⟩
    replace hm := hm r171 hr
    rw [hr] at hp
    clear hr
    subst hp
    refine opsP T hS 12 (sp := [14, 19]) (ks := [1, 2, 3, 24]) (bs := [4]) (sy' := ⟨[(1, V (.slice a2 l_.length c2)), (2, V (.slice a3 picks.length c3)), (3, Pt 4 0), (24, B (((!r171) || (decide (((l_.length : Nat) : Int) > 40))) || (decide (((picks.length : Nat) : Int) > 40))))], [(4, (24, [I o_.States, I o_.Kinds, I o_.Init, V (.slice a1 o_.Rows.length c1)]))]⟩) (by kernel_rfl) ?_
    intro a hS
    rcases Bool.eq_false_or_eq_true (((!r171) || (decide (((l_.length : Nat) : Int) > 40))) || (decide (((picks.length : Nat) : Int) > 40))) with hb | hb
    · replace hS := hS.lit (t := 24) (by kernel_rfl) hb
      replace hm := hm.1 hb
      refine endP T hS (sp := []) (ks := [1, 2, 30]) (bs := []) (sy' := ⟨[(1, V (.slice a2 l_.length c2)), (2, V (.slice a3 picks.length c3)), (30, B true)], []⟩) (by kernel_rfl) ?_
      intro a hS
      exact ⟨ρ, _, true, hm, hS.sel [1, 2, 30] [] (by kernel_rfl), hO, h2, h3⟩
    · replace hS := hS.lit (t := 24) (by kernel_rfl) hb
      replace hm := hm.2 hb
      refine opsP T hS 3 (sp := []) (ks := [1, 2, 24, 25, 26, 27]) (bs := []) (sy' := ⟨[(1, V (.slice a2 l_.length c2)), (2, V (.slice a3 picks.length c3)), (24, B false), (25, V (.agg #[.int .i64 o_.States, .int .i64 o_.Kinds, .int .i64 o_.Init, .slice a1 o_.Rows.length c1])), (26, V (.slice a2 l_.length c2)), (27, V (.slice a3 picks.length c3))], []⟩) (by kernel_rfl) ?_
      intro a hS
      obtain ⟨hq, hm⟩ := hm
      refine op1 (call hS (by kernel_rfl) (by kernel_rfl) hb25 (by kernel_rfl) (fun _ _ => rfl) (k25 _ _ o_ l_ picks a1 c1 a2 c2 a3 c3 hq h1 h2 h3) ?_)
      intro v172 a w173 χ174 hE hp hS
      clear hq
      replace hO := hO.mv hE rfl rfl
      replace h1 := h1.mv hE rfl
      replace h2 := h2.mv hE rfl
      replace h3 := h3.mv hE rfl
      clear hE
      obtain ⟨r175, hr⟩ : ∃ r, witness_Is o_ l_ picks = r := ⟨_, rfl⟩
      replace hm := hm r175 hr
      rw [hr] at hp
      clear hr
      subst hp
      refine endP T hS (sp := []) (ks := [1, 2, 30]) (bs := []) (sy' := ⟨[(1, V (.slice a2 l_.length c2)), (2, V (.slice a3 picks.length c3)), (30, B (!r175))], []⟩) (by kernel_rfl) ?_
      intro a hS
      exact ⟨ρ, _, (!r175), hm, hS.sel [1, 2, 30] [] (by kernel_rfl), hO, h2, h3⟩
  · rintro a w177 ⟨ρ, χ176, x_103, hm, hS, hO, h101, h102⟩
    unfold VC7_J1 at hm
    refine wcond hS (b := x_103) (by kernel_rfl) (fun hb => ?_) (fun hb => ?_)
    · replace hm := hm.1 hb
      refine regO ?_
      refine op1 (call hS (by kernel_rfl) (by kernel_rfl) hb26 (by kernel_rfl) (fun _ _ => rfl) (k26 _ _) ?_)
      intro v104 a w105 χ106 hE hp hS
      replace hO := hO.mv hE rfl rfl
      replace h101 := h101.mv hE rfl
      replace h102 := h102.mv hE rfl
      clear hE
      obtain ⟨r107, hr⟩ : ∃ r, law29_awake = r := ⟨_, rfl⟩
      replace hm := hm r107 hr
      rw [hr] at hp
      clear hr
      subst hp
      refine endP T hS (sp := []) (ks := [6]) (bs := []) (sy' := ⟨[(6, B r107)], []⟩) (by kernel_rfl) ?_
      intro a hS
      refine wret ?_
      exact fin T hS hO (fun c => c) rfl (r := [.bool r107]) (by kernel_rfl) (fun χ' hM hC => ⟨r107, hm, rfl⟩)
    · replace hm := hm.2 hb
      refine wskip ?_
      refine wcut (fun a w => ∃ (ρ : Nat → Nat) (χ : Nat → Nat), VC7_J2 Q ∧ St Try.f7.ntmps ⟨[], []⟩ ρ a w χ ∧ Old w0 χ0 w χ) ?_ ?_
      · refine regP T hS (sp := []) (ks := [1, 2, 7]) (bs := []) (sy' := ⟨[(1, V (.slice a2 l_.length c2)), (2, V (.slice a3 picks.length c3)), (7, I 0)], []⟩) (by kernel_rfl) ?_
        intro a hS
        refine wblock ?_
        obtain ⟨I1, μ1, hm0, hm⟩ := hm
        refine wloop (σ := Int) (fun s a w => ∃ (ρ : Nat → Nat) (χ : Nat → Nat), I1 s ∧ St Try.f7.ntmps ⟨[(1, V (.slice a2 l_.length c2)), (2, V (.slice a3 picks.length c3)), (7, I s)], []⟩ ρ a w χ ∧ Old w0 χ0 w χ ∧ RS tApi_Oper w χ a2 l_ c2 ∧ RS tApi_Pick w χ a3 picks c3) (fun s => μ1 s) (0) ?_ ?_
        · exact ⟨ρ, _, hm0, hS.sel [1, 2, 7] [] (by kernel_rfl), hO, h101, h102⟩
        · rintro i_114 a w165 ⟨ρ, χ164, hI, hS, hO, h112, h113⟩
          replace hm := hm i_114 hI
          clear hI hm0
          refine wseq ?_
          refine regP T hS (sp := []) (ks := [1, 2, 7, 35]) (bs := []) (sy' := ⟨[(1, V (.slice a2 l_.length c2)), (2, V (.slice a3 picks.length c3)), (7, I i_114), (35, B (decide (i_114 ≤ ((picks.length : Nat) : Int))))], []⟩) (by kernel_rfl) ?_
          intro a hS
          refine wcond hS (b := decide (i_114 ≤ ((picks.length : Nat) : Int))) (by kernel_rfl) (fun hb => ?_) (fun hb => ?_)
          · replace hm := hm.1 hb
            refine wskip ?_
            refine wcut (fun a w => ∃ (ρ : Nat → Nat) (χ : Nat → Nat), VC7_J3 I1 μ1 i_114 ∧ St Try.f7.ntmps ⟨[(1, V (.slice a2 l_.length c2)), (2, V (.slice a3 picks.length c3)), (7, I i_114)], []⟩ ρ a w χ ∧ Old w0 χ0 w χ ∧ RS tApi_Oper w χ a2 l_ c2 ∧ RS tApi_Pick w χ a3 picks c3) ?_ ?_
            · refine wblock ?_
              refine regO ?_
              refine opsP T hS 2 (sp := []) (ks := [1, 2, 7, 38, 39]) (bs := []) (sy' := ⟨[(1, V (.slice a2 l_.length c2)), (2, V (.slice a3 picks.length c3)), (7, I i_114), (38, V (.slice a3 picks.length c3)), (39, I i_114)], []⟩) (by kernel_rfl) ?_
              intro a hS
              obtain ⟨hq, hm⟩ := hm
              refine op1 (slice0 (E := 52) (kh := .i64) T hS (by kernel_rfl) (by kernel_rfl) (by kernel_rfl) (by kernel_rfl) h113 (by kernel_rfl) (by kernel_rfl) hq.1 hq.2 ?_)
              intro a117 c118 a h119 hS
              clear hq
              refine endP T hS (sp := []) (ks := [1, 2, 7, 8]) (bs := []) (sy' := ⟨[(1, V (.slice a2 l_.length c2)), (2, V (.slice a3 picks.length c3)), (7, I i_114), (8, V (.slice a117 (picks.take i_114.toNat).length c118))], []⟩) (by kernel_rfl) ?_
              intro a hS
              refine regO ?_
              refine opsP T hS 2 (sp := []) (ks := [1, 2, 7, 8, 41, 42]) (bs := []) (sy' := ⟨[(1, V (.slice a2 l_.length c2)), (2, V (.slice a3 picks.length c3)), (7, I i_114), (8, V (.slice a117 (picks.take i_114.toNat).length c118)), (41, V (.slice a2 l_.length c2)), (42, V (.slice a117 (picks.take i_114.toNat).length c118))], []⟩) (by kernel_rfl) ?_
              intro a hS
              obtain ⟨hq, hm⟩ := hm
              refine op1 (call hS (by kernel_rfl) (by kernel_rfl) hb27 (by kernel_rfl) (fun _ _ => rfl) (k27 _ _ l_ (picks.take i_114.toNat) a2 c2 a117 c118 hq h112 h119) ?_)
              intro v120 a w121 χ122 hE hp hS
              clear hq
              replace hO := hO.mv hE rfl rfl
              replace h112 := h112.mv hE rfl
              replace h113 := h113.mv hE rfl
              replace h119 := h119.mv hE rfl
              clear hE
              obtain ⟨a124, c125, hp, h126⟩ := hp
              obtain ⟨r123, hr⟩ : ∃ r, witness_Missing l_ (picks.take i_114.toNat) = r := ⟨_, rfl⟩
              replace hm := hm r123 hr
              rw [hr] at hp h126
              clear hr
              subst hp
              replace hm := hm (h126.sm (by kernel_rfl))
              refine endP T hS (sp := []) (ks := [1, 2, 7, 8, 9]) (bs := []) (sy' := ⟨[(1, V (.slice a2 l_.length c2)), (2, V (.slice a3 picks.length c3)), (7, I i_114), (8, V (.slice a117 (picks.take i_114.toNat).length c118)), (9, V (.slice a124 r123.length c125))], []⟩) (by kernel_rfl) ?_
              intro a hS
              refine wseq ?_
              refine wcut (fun a w => ∃ (ρ : Nat → Nat) (χ : Nat → Nat) (x_130 : Bool), VC7_J4 picks Q I1 μ1 i_114 r123 x_130 ∧ St Try.f7.ntmps ⟨[(1, V (.slice a2 l_.length c2)), (2, V (.slice a3 picks.length c3)), (7, I i_114), (9, V (.slice a124 r123.length c125)), (61, B x_130)], []⟩ ρ a w χ ∧ Old w0 χ0 w χ ∧ RS tApi_Oper w χ a2 l_ c2 ∧ RS tApi_Pick w χ a3 picks c3 ∧ RS tI w χ a124 r123 c125) ?_ ?_
              · refine region ?_
                refine opsP T hS 2 (sp := []) (ks := [1, 2, 7, 8, 9, 44, 45]) (bs := []) (sy' := ⟨[(1, V (.slice a2 l_.length c2)), (2, V (.slice a3 picks.length c3)), (7, I i_114), (8, V (.slice a117 (picks.take i_114.toNat).length c118)), (9, V (.slice a124 r123.length c125)), (44, V (.slice a2 l_.length c2)), (45, V (.slice a117 (picks.take i_114.toNat).length c118))], []⟩) (by kernel_rfl) ?_
                intro a hS
                refine op1 (call hS (by kernel_rfl) (by kernel_rfl) hb28 (by kernel_rfl) (fun _ _ => rfl) (k28 _ _ l_ (picks.take i_114.toNat) a2 c2 a117 c118 h112 h119) ?_)
                intro v149 a w150 χ151 hE hp hS
                replace hO := hO.mv hE rfl rfl
                replace h112 := h112.mv hE rfl
                replace h113 := h113.mv hE rfl
                replace h119 := h119.mv hE rfl
                replace h126 := h126.mv hE rfl
                clear hE
                obtain ⟨r152, hr⟩ : ∃ r, witness_Order l_ (picks.take i_114.toNat) = r := ⟨_, rfl⟩
                replace hm := hm r152 hr
                rw [hr] at hp
                clear hr
                subst hp
                refine opsP T hS 2 (sp := []) (ks := [1, 2, 7, 8, 9, 48]) (bs := []) (sy' := ⟨[(1, V (.slice a2 l_.length c2)), (2, V (.slice a3 picks.length c3)), (7, I i_114), (8, V (.slice a117 (picks.take i_114.toNat).length c118)), (9, V (.slice a124 r123.length c125)), (48, B (r152 != (-1)))], []⟩) (by kernel_rfl) ?_
                intro a hS
                rcases Bool.eq_false_or_eq_true (r152 != (-1)) with hb | hb
                · replace hS := hS.lit (t := 48) (by kernel_rfl) hb
                  replace hm := hm.1 hb
                  refine endP T hS (sp := []) (ks := [1, 2, 7, 9, 61]) (bs := []) (sy' := ⟨[(1, V (.slice a2 l_.length c2)), (2, V (.slice a3 picks.length c3)), (7, I i_114), (9, V (.slice a124 r123.length c125)), (61, B true)], []⟩) (by kernel_rfl) ?_
                  intro a hS
                  exact ⟨ρ, _, true, hm, hS.sel [1, 2, 7, 9, 61] [] (by kernel_rfl), hO, h112, h113, h126⟩
                · replace hS := hS.lit (t := 48) (by kernel_rfl) hb
                  replace hm := hm.2 hb
                  refine opsP T hS 4 (sp := []) (ks := [1, 2, 7, 9, 48, 49, 50, 51, 52]) (bs := []) (sy' := ⟨[(1, V (.slice a2 l_.length c2)), (2, V (.slice a3 picks.length c3)), (7, I i_114), (9, V (.slice a124 r123.length c125)), (48, B false), (49, V (.slice a124 r123.length c125)), (50, I ((r123.length : Nat) : Int)), (51, V (.slice a2 l_.length c2)), (52, V (.slice a117 (picks.take i_114.toNat).length c118))], []⟩) (by kernel_rfl) ?_
                  intro a hS
                  obtain ⟨hq, hm⟩ := hm
                  refine op1 (call hS (by kernel_rfl) (by kernel_rfl) hb29 (by kernel_rfl) (fun _ _ => rfl) (k29 _ _ l_ (picks.take i_114.toNat) a2 c2 a117 c118 hq h112 h119) ?_)
                  intro v153 a w154 χ155 hE hp hS
                  clear hq
                  replace hO := hO.mv hE rfl rfl
                  replace h112 := h112.mv hE rfl
                  replace h113 := h113.mv hE rfl
                  replace h119 := h119.mv hE rfl
                  replace h126 := h126.mv hE rfl
                  clear hE
                  obtain ⟨a157, c158, hp, h159⟩ := hp
                  obtain ⟨r156, hr⟩ : ∃ r, witness_Left l_ (picks.take i_114.toNat) = r := ⟨_, rfl⟩
                  replace hm := hm r156 hr
                  rw [hr] at hp h159
                  clear hr
                  subst hp
                  replace hm := hm (h159.sm (by kernel_rfl))
                  refine endP T hS (sp := []) (ks := [1, 2, 7, 9, 49, 50, 51, 52, 53, 54, 55, 56, 57, 58, 59, 60, 61]) (bs := []) (sy' := ⟨[(1, V (.slice a2 l_.length c2)), (2, V (.slice a3 picks.length c3)), (7, I i_114), (9, V (.slice a124 r123.length c125)), (49, V (.slice a124 r123.length c125)), (50, I ((r123.length : Nat) : Int)), (51, V (.slice a2 l_.length c2)), (52, V (.slice a117 (picks.take i_114.toNat).length c118)), (53, V (.slice a157 r156.length c158)), (54, I ((r156.length : Nat) : Int)), (55, I (IntKind.i64.wrap (((r123.length : Nat) : Int) + ((r156.length : Nat) : Int)))), (56, I i_114), (57, I (IntKind.i64.wrap ((IntKind.i64.wrap (((r123.length : Nat) : Int) + ((r156.length : Nat) : Int))) + i_114))), (58, V (.slice a2 l_.length c2)), (59, I ((l_.length : Nat) : Int)), (60, B ((IntKind.i64.wrap ((IntKind.i64.wrap (((r123.length : Nat) : Int) + ((r156.length : Nat) : Int))) + i_114)) != ((l_.length : Nat) : Int))), (61, B ((IntKind.i64.wrap ((IntKind.i64.wrap (((r123.length : Nat) : Int) + ((r156.length : Nat) : Int))) + i_114)) != ((l_.length : Nat) : Int)))], []⟩) (by kernel_rfl) ?_
                  intro a hS
                  exact ⟨ρ, _, ((IntKind.i64.wrap ((IntKind.i64.wrap (((r123.length : Nat) : Int) + ((r156.length : Nat) : Int))) + i_114)) != ((l_.length : Nat) : Int)), hm, hS.sel [1, 2, 7, 9, 61] [] (by kernel_rfl), hO, h112, h113, h126⟩
              · rintro a w161 ⟨ρ, χ160, x_130, hm, hS, hO, h127, h128, h129⟩
                unfold VC7_J4 at hm
                refine wcond hS (b := x_130) (by kernel_rfl) (fun hb => ?_) (fun hb => ?_)
                · replace hm := hm.1 hb
                  refine regP T hS (sp := []) (ks := [6]) (bs := []) (sy' := ⟨[(6, B false)], []⟩) (by kernel_rfl) ?_
                  intro a hS
                  refine wret ?_
                  exact fin T hS hO (fun c => c) rfl (r := [.bool false]) (by kernel_rfl) (fun χ' hM hC => ⟨false, hm, rfl⟩)
                · replace hm := hm.2 hb
                  refine wskip ?_
                  refine regP T hS (sp := []) (ks := [1, 2, 7, 9, 10]) (bs := []) (sy' := ⟨[(1, V (.slice a2 l_.length c2)), (2, V (.slice a3 picks.length c3)), (7, I i_114), (9, V (.slice a124 r123.length c125)), (10, I 0)], []⟩) (by kernel_rfl) ?_
                  intro a hS
                  refine wblock ?_
                  obtain ⟨I2, μ2, hm0, hm⟩ := hm
                  refine wloop (σ := Int) (fun s a w => ∃ (ρ : Nat → Nat) (χ : Nat → Nat), I2 s ∧ St Try.f7.ntmps ⟨[(1, V (.slice a2 l_.length c2)), (2, V (.slice a3 picks.length c3)), (7, I i_114), (9, V (.slice a124 r123.length c125)), (10, I s)], []⟩ ρ a w χ ∧ Old w0 χ0 w χ ∧ RS tApi_Oper w χ a2 l_ c2 ∧ RS tApi_Pick w χ a3 picks c3 ∧ RS tI w χ a124 r123 c125) (fun s => μ2 s) (0) ?_ ?_
                  · exact ⟨ρ, _, hm0, hS.sel [1, 2, 7, 9, 10] [] (by kernel_rfl), hO, h127, h128, h129⟩
                  · rintro k_134 a w148 ⟨ρ, χ147, hI, hS, hO, h131, h132, h133⟩
                    replace hm := hm k_134 hI
                    clear hI hm0
                    refine wseq ?_
                    refine regP T hS (sp := []) (ks := [1, 2, 7, 9, 10, 65]) (bs := []) (sy' := ⟨[(1, V (.slice a2 l_.length c2)), (2, V (.slice a3 picks.length c3)), (7, I i_114), (9, V (.slice a124 r123.length c125)), (10, I k_134), (65, B (decide (k_134 < ((r123.length : Nat) : Int))))], []⟩) (by kernel_rfl) ?_
                    intro a hS
                    refine wcond hS (b := decide (k_134 < ((r123.length : Nat) : Int))) (by kernel_rfl) (fun hb => ?_) (fun hb => ?_)
                    · replace hm := hm.1 hb
                      refine wskip ?_
                      refine wseq ?_
                      refine wblock ?_
                      refine drawnSX [] mixed hS ?_
                      intro w135 χ136 hS hE hD hH
                      replace hO := hO.mv hE rfl rfl
                      replace h131 := h131.mv hE rfl
                      replace h132 := h132.mv hE rfl
                      replace h133 := h133.mv hE rfl
                      clear hE
                      refine take T [0, 1, 3, 4] [] [1, 2, 7, 9, 10, 68, 69, 71, 72] hS (by kernel_rfl) (by kernel_rfl) (by kernel_rfl) hH (listed' := #[true, true, false, true, true, false, false, false, false]) (fuel := 5) (sy' := ⟨[(1, V (.slice a2 l_.length c2)), (2, V (.slice a3 picks.length c3)), (7, I i_114), (9, V (.slice a124 r123.length c125)), (10, I k_134), (68, V (.slice a3 picks.length c3)), (69, I i_114), (71, V (.slice a124 r123.length c125)), (72, I k_134)], []⟩) (by kernel_rfl) (by rfl) ?_
                      intro a hS
                      obtain ⟨hq, hm⟩ := hm
                      refine dslice1 (E := 52) (kl := .i64) T 2 hS (by kernel_rfl) (by kernel_rfl) (by kernel_rfl) (by rfl) (by kernel_rfl) hH (by kernel_rfl) (by kernel_rfl) h132 (by kernel_rfl) (by kernel_rfl) hq.1 hq.2 ?_
                      intro a137 c138 a h139 hS
                      clear hq
                      obtain ⟨hq, hm⟩ := hm
                      refine dindex (e := 3) (k := .i64) T 5 hS (by kernel_rfl) (by kernel_rfl) (by kernel_rfl) (by rfl) (by kernel_rfl) hH (by kernel_rfl) (by kernel_rfl) h133 (by kernel_rfl) (by kernel_rfl) hq.1 hq.2 ?_
                      intro A140 a h141 hS
                      clear hq
                      have h141b := h141.here
                      refine dload1 T 6 hS (by kernel_rfl) (by kernel_rfl) (by kernel_rfl) (by rfl) (by kernel_rfl) hH (by kernel_rfl) h141 h141b rfl (by kernel_rfl) ?_
                      intro v142 a hv hS
                      cases hv
                      refine only 7 (by kernel_rfl) (by rfl) (call hS (by kernel_rfl) (by kernel_rfl) hb30 (by kernel_rfl) (fun _ _ => rfl) (k30 _ _ (picks.drop i_114.toNat) (gi r123 k_134) a137 c138 h139) ?_)
                      intro v143 a w144 χ145 hE hp hS
                      replace hO := hO.mv hE rfl rfl
                      replace hD := hD.ev hE rfl
                      replace h131 := h131.mv hE rfl
                      replace h132 := h132.mv hE rfl
                      replace h133 := h133.mv hE rfl
                      replace h139 := h139.mv hE rfl
                      replace h141 := h141.mv hE rfl
                      clear hE
                      obtain ⟨r146, hr⟩ : ∃ r, ref29_Place (picks.drop i_114.toNat) (gi r123 k_134) = r := ⟨_, rfl⟩
                      replace hm := hm r146 hr
                      rw [hr] at hp
                      clear hr
                      subst hp
                      refine andH (Hold.of hS (bks := []) (by kernel_rfl) hD) ?_
                      intro hH
                      refine take T [8] [] [1, 2, 7, 9, 10, 76] hS (by kernel_rfl) (by kernel_rfl) (by kernel_rfl) hH (listed' := #[true, true, true, true, true, true, true, true, true]) (fuel := 0) (sy' := ⟨[(1, V (.slice a2 l_.length c2)), (2, V (.slice a3 picks.length c3)), (7, I i_114), (9, V (.slice a124 r123.length c125)), (10, I k_134), (76, B (decide (r146 < 0)))], []⟩) (by kernel_rfl) (by rfl) ?_
                      intro a hS
                      refine drawnDone (by kernel_rfl) ?_
                      clear hD hH
                      replace hS := hS.sel [1, 2, 7, 9, 10, 76] [] (sy' := ⟨[(1, V (.slice a2 l_.length c2)), (2, V (.slice a3 picks.length c3)), (7, I i_114), (9, V (.slice a124 r123.length c125)), (10, I k_134), (76, B (decide (r146 < 0)))], []⟩) (by kernel_rfl)
                      refine wcond hS (b := decide (r146 < 0)) (by kernel_rfl) (fun hb => ?_) (fun hb => ?_)
                      · replace hm := hm.1 hb
                        refine regP T hS (sp := []) (ks := [6]) (bs := []) (sy' := ⟨[(6, B false)], []⟩) (by kernel_rfl) ?_
                        intro a hS
                        refine wret ?_
                        exact fin T hS hO (fun c => c) rfl (r := [.bool false]) (by kernel_rfl) (fun χ' hM hC => ⟨false, hm, rfl⟩)
                      · replace hm := hm.2 hb
                        refine wskip ?_
                        refine region (endP T hS (sp := []) (ks := [1, 2, 7, 9, 10]) (bs := []) (sy' := ⟨[(1, V (.slice a2 l_.length c2)), (2, V (.slice a3 picks.length c3)), (7, I i_114), (9, V (.slice a124 r123.length c125)), (10, I (IntKind.i64.wrap (k_134 + 1)))], []⟩) (by kernel_rfl) ?_)
                        intro a hS
                        exact ⟨IntKind.i64.wrap (k_134 + 1), ⟨ρ, _, hm.1, hS.sel [1, 2, 7, 9, 10] [] (by kernel_rfl), hO, h131, h132, h133⟩, hm.2⟩
                    · replace hm := hm.2 hb
                      refine wexit (by rfl) ?_
                      exact ⟨ρ, _, hm, hS.sel [1, 2, 7] [] (by kernel_rfl), hO, h131, h132⟩
            · rintro a w163 ⟨ρ, χ162, hm, hS, hO, h115, h116⟩
              unfold VC7_J3 at hm
              refine region (endP T hS (sp := []) (ks := [1, 2, 7]) (bs := []) (sy' := ⟨[(1, V (.slice a2 l_.length c2)), (2, V (.slice a3 picks.length c3)), (7, I (IntKind.i64.wrap (i_114 + 1)))], []⟩) (by kernel_rfl) ?_)
              intro a hS
              exact ⟨IntKind.i64.wrap (i_114 + 1), ⟨ρ, _, hm.1, hS.sel [1, 2, 7] [] (by kernel_rfl), hO, h115, h116⟩, hm.2⟩
          · replace hm := hm.2 hb
            refine wexit (by rfl) ?_
            exact ⟨ρ, _, hm, hS.sel [] [] (by kernel_rfl), hO⟩
      · rintro a w167 ⟨ρ, χ166, hm, hS, hO⟩
        unfold VC7_J2 at hm
        refine regO ?_
        refine op1 (call hS (by kernel_rfl) (by kernel_rfl) hb26 (by kernel_rfl) (fun _ _ => rfl) (k26 _ _) ?_)
        intro v108 a w109 χ110 hE hp hS
        replace hO := hO.mv hE rfl rfl
        clear hE
        obtain ⟨r111, hr⟩ : ∃ r, law29_awake = r := ⟨_, rfl⟩
        replace hm := hm r111 hr
        rw [hr] at hp
        clear hr
        subst hp
        refine endP T hS (sp := []) (ks := [6]) (bs := []) (sy' := ⟨[(6, B r111)], []⟩) (by kernel_rfl) ?_
        intro a hS
        refine wret ?_
        exact fin T hS hO (fun c => c) rfl (r := [.bool r111]) (by kernel_rfl) (fun χ' hM hC => ⟨r111, hm, rfl⟩)
/-- replevin/replevinlaw29.WitnessDefines -/
theorem W8 (k12 : S12) (k25 : S25) (k26 : S26) (k31 : S31) (k32 : S32) (k33 : S33) (w0 : World) (χ0 : Nat → Nat) (o_ : Api_Object) (l_ : List Api_Oper) (picks : List Api_Pick) (a1 : Option Addr) (c1 : Nat) (a2 : Option Addr) (c2 : Nat) (a3 : Option Addr) (c3 : Nat) (Q : Bool → Prop) (hm : VC8 o_ l_ picks Q) (h1 : RS tApi_Row w0 χ0 a1 o_.Rows c1) (h2 : RS tApi_Oper w0 χ0 a2 l_ c2) (h3 : RS tApi_Pick w0 χ0 a3 picks c3) :
    Ret Try.prog 8 #[.agg #[.int .i64 o_.States, .int .i64 o_.Kinds, .int .i64 o_.Init, .slice a1 o_.Rows.length c1], .slice a2 l_.length c2, .slice a3 picks.length c3] xnone w0 χ0 (fun w χ' v => ∃ r, Q r ∧ v = .bool r) := by
  unfold VC8 at hm
  replace hm := hm (h1.sm (by kernel_rfl))
  replace hm := hm (h2.sm (by kernel_rfl))
  replace hm := hm (h3.sm (by kernel_rfl))
  refine enter Try.func8 rfl (vals := [.agg #[.int .i64 o_.States, .int .i64 o_.Kinds, .int .i64 o_.Init, .slice a1 o_.Rows.length c1], .slice a2 l_.length c2, .slice a3 picks.length c3]) (by kernel_rfl) ?_
  intro ρ a hS hO hM
  replace h1 := h1.m0 hM
  replace h2 := h2.m0 hM
  replace h3 := h3.m0 hM
  clear hM
  refine regM T hS (sp := []) (ks := [1, 2, 3]) (bs := [4]) (sy' := ⟨[(1, V (.slice a2 l_.length c2)), (2, V (.slice a3 picks.length c3)), (3, Pt 4 0)], [(4, (24, [I o_.States, I o_.Kinds, I o_.Init, V (.slice a1 o_.Rows.length c1)]))]⟩) (by kernel_rfl) ?_
  intro ρ a w147 χ148 hS hE hr
  replace hO := hO.mv hE rfl rfl
  replace h1 := h1.mv hE rfl
  replace h2 := h2.mv hE rfl
  replace h3 := h3.mv hE rfl
  clear hE hr
  refine wseq ?_
  refine regO ?_
  refine opsP T hS 1 (sp := []) (ks := [1, 2, 3, 11]) (bs := [4]) (sy' := ⟨[(1, V (.slice a2 l_.length c2)), (2, V (.slice a3 picks.length c3)), (3, Pt 4 0), (11, V (.agg #[.int .i64 o_.States, .int .i64 o_.Kinds, .int .i64 o_.Init, .slice a1 o_.Rows.length c1]))], [(4, (24, [I o_.States, I o_.Kinds, I o_.Init, V (.slice a1 o_.Rows.length c1)]))]⟩) (by kernel_rfl) ?_
  intro a hS
  refine op1 (call hS (by kernel_rfl) (by kernel_rfl) hb12 (by kernel_rfl) (fun _ _ => rfl) (k12 _ _ o_ a1 c1 h1) ?_)
  intro v101 a w102 χ103 hE hp hS
  replace hO := hO.mv hE rfl rfl
  replace h1 := h1.mv hE rfl
  replace h2 := h2.mv hE rfl
  replace h3 := h3.mv hE rfl
  clear hE
  obtain ⟨r104, hr⟩ : ∃ r, law23_Few o_ = r := ⟨_, rfl⟩
  replace hm := hm r104 hr
  rw [hr] at hp
  clear hr
  subst hp
  refine endP T hS (sp := [14, 19]) (ks := [1, 2, 3, 23]) (bs := [4]) (sy' := ⟨[(1, V (.slice a2 l_.length c2)), (2, V (.slice a3 picks.length c3)), (3, Pt 4 0), (23, B (((!r104) || (decide (((l_.length : Nat) : Int) > 40))) || (decide (((picks.length : Nat) : Int) > 40))))], [(4, (24, [I o_.States, I o_.Kinds, I o_.Init, V (.slice a1 o_.Rows.length c1)]))]⟩) (by kernel_rfl) ?_
  intro a hS
  refine wcond hS (b := (((!r104) || (decide (((l_.length : Nat) : Int) > 40))) || (decide (((picks.length : Nat) : Int) > 40)))) (by kernel_rfl) (fun hb => ?_) (fun hb => ?_)
  · replace hm := hm.1 hb
    refine regO ?_
    refine op1 (call hS (by kernel_rfl) (by kernel_rfl) hb26 (by kernel_rfl) (fun _ _ => rfl) (k26 _ _) ?_)
    intro v105 a w106 χ107 hE hp hS
    replace hO := hO.mv hE rfl rfl
    replace h1 := h1.mv hE rfl
    replace h2 := h2.mv hE rfl
    replace h3 := h3.mv hE rfl
    clear hE
    obtain ⟨r108, hr⟩ : ∃ r, law29_awake = r := ⟨_, rfl⟩
    replace hm := hm r108 hr
    rw [hr] at hp
    clear hr
    subst hp
    refine endP T hS (sp := []) (ks := [6]) (bs := []) (sy' := ⟨[(6, B r108)], []⟩) (by kernel_rfl) ?_
    intro a hS
    refine wret ?_
    exact fin T hS hO (fun c => c) rfl (r := [.bool r108]) (by kernel_rfl) (fun χ' hM hC => ⟨r108, hm, rfl⟩)
  · replace hm := hm.2 hb
    refine wskip ?_
    refine wseq ?_
    refine regO ?_
    refine opsP T hS 1 (sp := []) (ks := [1, 2, 3, 26]) (bs := [4]) (sy' := ⟨[(1, V (.slice a2 l_.length c2)), (2, V (.slice a3 picks.length c3)), (3, Pt 4 0), (26, V (.agg #[.int .i64 o_.States, .int .i64 o_.Kinds, .int .i64 o_.Init, .slice a1 o_.Rows.length c1]))], [(4, (24, [I o_.States, I o_.Kinds, I o_.Init, V (.slice a1 o_.Rows.length c1)]))]⟩) (by kernel_rfl) ?_
    intro a hS
    obtain ⟨hq, hm⟩ := hm
    refine op1 (call hS (by kernel_rfl) (by kernel_rfl) hb31 (by kernel_rfl) (fun _ _ => rfl) (k31 _ _ o_ a1 c1 hq h1) ?_)
    intro v109 a w110 χ111 hE hp hS
    clear hq
    replace hO := hO.mv hE rfl rfl
    replace h1 := h1.mv hE rfl
    replace h2 := h2.mv hE rfl
    replace h3 := h3.mv hE rfl
    clear hE
    obtain ⟨r112, hr⟩ : ∃ r, object_Check o_ = r := ⟨_, rfl⟩
    replace hm := hm r112 hr
    rw [hr] at hp
    clear hr
    subst hp
    refine endP T hS (sp := []) (ks := [1, 2, 3, 8]) (bs := [4]) (sy' := ⟨[(1, V (.slice a2 l_.length c2)), (2, V (.slice a3 picks.length c3)), (3, Pt 4 0), (8, I r112.2)], [(4, (24, [I o_.States, I o_.Kinds, I o_.Init, V (.slice a1 o_.Rows.length c1)]))]⟩) (by kernel_rfl) ?_
    intro a hS
    refine regP T hS (sp := []) (ks := [1, 2, 3, 31]) (bs := [4]) (sy' := ⟨[(1, V (.slice a2 l_.length c2)), (2, V (.slice a3 picks.length c3)), (3, Pt 4 0), (31, B (r112.2 != 0))], [(4, (24, [I o_.States, I o_.Kinds, I o_.Init, V (.slice a1 o_.Rows.length c1)]))]⟩) (by kernel_rfl) ?_
    intro a hS
    refine wcond hS (b := (r112.2 != 0)) (by kernel_rfl) (fun hb => ?_) (fun hb => ?_)
    · replace hm := hm.1 hb
      refine regO ?_
      refine opsP T hS 3 (sp := []) (ks := [32, 33, 34]) (bs := []) (sy' := ⟨[(32, V (.agg #[.int .i64 o_.States, .int .i64 o_.Kinds, .int .i64 o_.Init, .slice a1 o_.Rows.length c1])), (33, V (.slice a2 l_.length c2)), (34, V (.slice a3 picks.length c3))], []⟩) (by kernel_rfl) ?_
      intro a hS
      obtain ⟨hq, hm⟩ := hm
      refine op1 (call hS (by kernel_rfl) (by kernel_rfl) hb25 (by kernel_rfl) (fun _ _ => rfl) (k25 _ _ o_ l_ picks a1 c1 a2 c2 a3 c3 hq h1 h2 h3) ?_)
      intro v113 a w114 χ115 hE hp hS
      clear hq
      replace hO := hO.mv hE rfl rfl
      replace h1 := h1.mv hE rfl
      replace h2 := h2.mv hE rfl
      replace h3 := h3.mv hE rfl
      clear hE
      obtain ⟨r116, hr⟩ : ∃ r, witness_Is o_ l_ picks = r := ⟨_, rfl⟩
      replace hm := hm r116 hr
      rw [hr] at hp
      clear hr
      subst hp
      refine opsP T hS 2 (sp := []) (ks := [37]) (bs := []) (sy' := ⟨[(37, B (!r116))], []⟩) (by kernel_rfl) ?_
      intro a hS
      rcases Bool.eq_false_or_eq_true (!r116) with hb | hb
      · replace hS := hS.lit (t := 37) (by kernel_rfl) hb
        replace hm := hm.1 hb
        refine op1 (call hS (by kernel_rfl) (by kernel_rfl) hb26 (by kernel_rfl) (fun _ _ => rfl) (k26 _ _) ?_)
        intro v117 a w118 χ119 hE hp hS
        replace hO := hO.mv hE rfl rfl
        clear hE
        obtain ⟨r120, hr⟩ : ∃ r, law29_awake = r := ⟨_, rfl⟩
        replace hm := hm r120 hr
        rw [hr] at hp
        clear hr
        subst hp
        refine endP T hS (sp := []) (ks := [6]) (bs := []) (sy' := ⟨[(6, B r120)], []⟩) (by kernel_rfl) ?_
        intro a hS
        refine wret ?_
        exact fin T hS hO (fun c => c) rfl (r := [.bool r120]) (by kernel_rfl) (fun χ' hM hC => ⟨r120, hm, rfl⟩)
      · replace hS := hS.lit (t := 37) (by kernel_rfl) hb
        replace hm := hm.2 hb
        refine endP T hS (sp := []) (ks := [6]) (bs := []) (sy' := ⟨[(6, B false)], []⟩) (by kernel_rfl) ?_
        intro a hS
        refine wret ?_
        exact fin T hS hO (fun c => c) rfl (r := [.bool false]) (by kernel_rfl) (fun χ' hM hC => ⟨false, hm, rfl⟩)
    · replace hm := hm.2 hb
      refine wskip ?_
      refine wseq ?_
      refine regO ?_
      refine opsP T hS 1 (sp := []) (ks := [1, 2, 3, 41]) (bs := [4]) (sy' := ⟨[(1, V (.slice a2 l_.length c2)), (2, V (.slice a3 picks.length c3)), (3, Pt 4 0), (41, V (.slice a2 l_.length c2))], [(4, (24, [I o_.States, I o_.Kinds, I o_.Init, V (.slice a1 o_.Rows.length c1)]))]⟩) (by kernel_rfl) ?_
      intro a hS
      refine op1 (call hS (by kernel_rfl) (by kernel_rfl) hb32 (by kernel_rfl) (fun _ _ => rfl) (k32 _ _ l_ a2 c2 h2) ?_)
      intro v121 a w122 χ123 hE hp hS
      replace hO := hO.mv hE rfl rfl
      replace h1 := h1.mv hE rfl
      replace h2 := h2.mv hE rfl
      replace h3 := h3.mv hE rfl
      clear hE
      obtain ⟨r124, hr⟩ : ∃ r, oper_Check l_ = r := ⟨_, rfl⟩
      replace hm := hm r124 hr
      rw [hr] at hp
      clear hr
      subst hp
      refine endP T hS (sp := []) (ks := [1, 2, 3, 10]) (bs := [4]) (sy' := ⟨[(1, V (.slice a2 l_.length c2)), (2, V (.slice a3 picks.length c3)), (3, Pt 4 0), (10, I r124.2)], [(4, (24, [I o_.States, I o_.Kinds, I o_.Init, V (.slice a1 o_.Rows.length c1)]))]⟩) (by kernel_rfl) ?_
      intro a hS
      refine regP T hS (sp := []) (ks := [1, 2, 3, 46]) (bs := [4]) (sy' := ⟨[(1, V (.slice a2 l_.length c2)), (2, V (.slice a3 picks.length c3)), (3, Pt 4 0), (46, B (r124.2 != 0))], [(4, (24, [I o_.States, I o_.Kinds, I o_.Init, V (.slice a1 o_.Rows.length c1)]))]⟩) (by kernel_rfl) ?_
      intro a hS
      refine wcond hS (b := (r124.2 != 0)) (by kernel_rfl) (fun hb => ?_) (fun hb => ?_)
      · replace hm := hm.1 hb
        refine regO ?_
        refine opsP T hS 3 (sp := []) (ks := [47, 48, 49]) (bs := []) (sy' := ⟨[(47, V (.agg #[.int .i64 o_.States, .int .i64 o_.Kinds, .int .i64 o_.Init, .slice a1 o_.Rows.length c1])), (48, V (.slice a2 l_.length c2)), (49, V (.slice a3 picks.length c3))], []⟩) (by kernel_rfl) ?_
        intro a hS
        obtain ⟨hq, hm⟩ := hm
        refine op1 (call hS (by kernel_rfl) (by kernel_rfl) hb25 (by kernel_rfl) (fun _ _ => rfl) (k25 _ _ o_ l_ picks a1 c1 a2 c2 a3 c3 hq h1 h2 h3) ?_)
        intro v125 a w126 χ127 hE hp hS
        clear hq
        replace hO := hO.mv hE rfl rfl
        replace h1 := h1.mv hE rfl
        replace h2 := h2.mv hE rfl
        replace h3 := h3.mv hE rfl
        clear hE
        obtain ⟨r128, hr⟩ : ∃ r, witness_Is o_ l_ picks = r := ⟨_, rfl⟩
        replace hm := hm r128 hr
        rw [hr] at hp
        clear hr
        subst hp
        refine opsP T hS 2 (sp := []) (ks := [52]) (bs := []) (sy' := ⟨[(52, B (!r128))], []⟩) (by kernel_rfl) ?_
        intro a hS
        rcases Bool.eq_false_or_eq_true (!r128) with hb | hb
        · replace hS := hS.lit (t := 52) (by kernel_rfl) hb
          replace hm := hm.1 hb
          refine op1 (call hS (by kernel_rfl) (by kernel_rfl) hb26 (by kernel_rfl) (fun _ _ => rfl) (k26 _ _) ?_)
          intro v129 a w130 χ131 hE hp hS
          replace hO := hO.mv hE rfl rfl
          clear hE
          obtain ⟨r132, hr⟩ : ∃ r, law29_awake = r := ⟨_, rfl⟩
          replace hm := hm r132 hr
          rw [hr] at hp
          clear hr
          subst hp
          refine endP T hS (sp := []) (ks := [6]) (bs := []) (sy' := ⟨[(6, B r132)], []⟩) (by kernel_rfl) ?_
          intro a hS
          refine wret ?_
          exact fin T hS hO (fun c => c) rfl (r := [.bool r132]) (by kernel_rfl) (fun χ' hM hC => ⟨r132, hm, rfl⟩)
        · replace hS := hS.lit (t := 52) (by kernel_rfl) hb
          replace hm := hm.2 hb
          refine endP T hS (sp := []) (ks := [6]) (bs := []) (sy' := ⟨[(6, B false)], []⟩) (by kernel_rfl) ?_
          intro a hS
          refine wret ?_
          exact fin T hS hO (fun c => c) rfl (r := [.bool false]) (by kernel_rfl) (fun χ' hM hC => ⟨false, hm, rfl⟩)
      · replace hm := hm.2 hb
        refine wskip ?_
        refine drawnSX [4] mixed hS ?_
        intro w133 χ134 hS hE hD hH
        replace hO := hO.mv hE rfl rfl
        replace h1 := h1.mv hE rfl
        replace h2 := h2.mv hE rfl
        replace h3 := h3.mv hE rfl
        clear hE
        refine take T [0, 1, 2, 4, 5, 6] [4] [55, 56, 57, 59, 60, 61] hS (by kernel_rfl) (by kernel_rfl) (by kernel_rfl) hH (listed' := #[true, true, true, false, true, true, true, false, false, false, false, false, false]) (fuel := 7) (sy' := ⟨[(55, V (.agg #[.int .i64 o_.States, .int .i64 o_.Kinds, .int .i64 o_.Init, .slice a1 o_.Rows.length c1])), (56, V (.slice a2 l_.length c2)), (57, V (.slice a3 picks.length c3)), (59, V (.agg #[.int .i64 o_.States, .int .i64 o_.Kinds, .int .i64 o_.Init, .slice a1 o_.Rows.length c1])), (60, V (.slice a2 l_.length c2)), (61, V (.slice a3 picks.length c3))], [(4, (24, [I o_.States, I o_.Kinds, I o_.Init, V (.slice a1 o_.Rows.length c1)]))]⟩) (by kernel_rfl) (by rfl) ?_
        intro a hS
        obtain ⟨hq, hm⟩ := hm
        refine only 3 (by kernel_rfl) (by rfl) (call hS (by kernel_rfl) (by kernel_rfl) hb25 (by kernel_rfl) (fun _ _ => rfl) (k25 _ _ o_ l_ picks a1 c1 a2 c2 a3 c3 hq h1 h2 h3) ?_)
        intro v135 a w136 χ137 hE hp hS
        clear hq
        replace hO := hO.mv hE rfl rfl
        replace hD := hD.ev hE rfl
        replace h1 := h1.mv hE rfl
        replace h2 := h2.mv hE rfl
        replace h3 := h3.mv hE rfl
        clear hE
        obtain ⟨r138, hr⟩ : ∃ r, witness_Is o_ l_ picks = r := ⟨_, rfl⟩
        replace hm := hm r138 hr
        rw [hr] at hp
        clear hr
        subst hp
        replace hS := hS.sel [55, 56, 57, 59, 60, 61, 58] [4] (sy' := ⟨[(55, V (.agg #[.int .i64 o_.States, .int .i64 o_.Kinds, .int .i64 o_.Init, .slice a1 o_.Rows.length c1])), (56, V (.slice a2 l_.length c2)), (57, V (.slice a3 picks.length c3)), (59, V (.agg #[.int .i64 o_.States, .int .i64 o_.Kinds, .int .i64 o_.Init, .slice a1 o_.Rows.length c1])), (60, V (.slice a2 l_.length c2)), (61, V (.slice a3 picks.length c3)), (58, B r138)], [(4, (24, [I o_.States, I o_.Kinds, I o_.Init, V (.slice a1 o_.Rows.length c1)]))]⟩) (by kernel_rfl)
        refine andH (Hold.of hS (bks := [4]) (by kernel_rfl) hD) ?_
        intro hH
        refine only 7 (by kernel_rfl) (by rfl) (call hS (by kernel_rfl) (by kernel_rfl) hb33 (by kernel_rfl) (fun _ _ => rfl) (k33 _ _ o_ l_ picks a1 c1 a2 c2 a3 c3 h1 h2 h3) ?_)
        intro v139 a w140 χ141 hE hp hS
        replace hO := hO.mv hE rfl rfl
        replace hD := hD.ev hE rfl
        replace h1 := h1.mv hE rfl
        replace h2 := h2.mv hE rfl
        replace h3 := h3.mv hE rfl
        clear hE
        obtain ⟨r142, hr⟩ : ∃ r, ref29_Lin o_ l_ picks = r := ⟨_, rfl⟩
        replace hm := hm r142 hr
        rw [hr] at hp
        clear hr
        subst hp
        replace hS := hS.sel [55, 56, 57, 59, 60, 61, 58, 62] [4] (sy' := ⟨[(55, V (.agg #[.int .i64 o_.States, .int .i64 o_.Kinds, .int .i64 o_.Init, .slice a1 o_.Rows.length c1])), (56, V (.slice a2 l_.length c2)), (57, V (.slice a3 picks.length c3)), (59, V (.agg #[.int .i64 o_.States, .int .i64 o_.Kinds, .int .i64 o_.Init, .slice a1 o_.Rows.length c1])), (60, V (.slice a2 l_.length c2)), (61, V (.slice a3 picks.length c3)), (58, B r138), (62, B r142)], [(4, (24, [I o_.States, I o_.Kinds, I o_.Init, V (.slice a1 o_.Rows.length c1)]))]⟩) (by kernel_rfl)
        refine andH (Hold.of hS (bks := [4]) (by kernel_rfl) hD) ?_
        intro hH
        refine take T [8, 9] [4] [64] hS (by kernel_rfl) (by kernel_rfl) (by kernel_rfl) hH (listed' := #[true, true, true, true, true, true, true, true, true, true, false, false, false]) (fuel := 3) (sy' := ⟨[(64, B (r138 == r142))], [(4, (24, [I o_.States, I o_.Kinds, I o_.Init, V (.slice a1 o_.Rows.length c1)]))]⟩) (by kernel_rfl) (by rfl) ?_
        intro a hS
        rcases Bool.eq_false_or_eq_true (r138 == r142) with hb | hb
        · replace hS := hS.lit (t := 64) (by kernel_rfl) hb
          replace hm := hm.1 hb
          refine only 10 (by kernel_rfl) (by rfl) (call hS (by kernel_rfl) (by kernel_rfl) hb26 (by kernel_rfl) (fun _ _ => rfl) (k26 _ _) ?_)
          intro v143 a w144 χ145 hE hp hS
          replace hO := hO.mv hE rfl rfl
          replace hD := hD.ev hE rfl
          replace h1 := h1.mv hE rfl
          replace h2 := h2.mv hE rfl
          replace h3 := h3.mv hE rfl
          clear hE
          obtain ⟨r146, hr⟩ : ∃ r, law29_awake = r := ⟨_, rfl⟩
          replace hm := hm r146 hr
          rw [hr] at hp
          clear hr
          subst hp
          replace hS := hS.sel [64, 65] [4] (sy' := ⟨[(64, B true), (65, B r146)], [(4, (24, [I o_.States, I o_.Kinds, I o_.Init, V (.slice a1 o_.Rows.length c1)]))]⟩) (by kernel_rfl)
          refine andH (Hold.of hS (bks := [4]) (by kernel_rfl) hD) ?_
          intro hH
          refine take T [11, 12] [4] [6] hS (by kernel_rfl) (by kernel_rfl) (by kernel_rfl) hH (listed' := #[true, true, true, true, true, true, true, true, true, true, true, true, true]) (fuel := 0) (sy' := ⟨[(6, B r146)], [(4, (24, [I o_.States, I o_.Kinds, I o_.Init, V (.slice a1 o_.Rows.length c1)]))]⟩) (by kernel_rfl) (by rfl) ?_
          intro a hS
          refine drawnDone (by kernel_rfl) ?_
          clear hD hH
          replace hS := hS.sel [6] [] (sy' := ⟨[(6, B r146)], []⟩) (by kernel_rfl)
          refine wret ?_
          exact fin T hS hO (fun c => c) rfl (r := [.bool r146]) (by kernel_rfl) (fun χ' hM hC => ⟨r146, hm, rfl⟩)
        · replace hS := hS.lit (t := 64) (by kernel_rfl) hb
          replace hm := hm.2 hb
          refine take T [10, 11, 12] [4] [6] hS (by kernel_rfl) (by kernel_rfl) (by kernel_rfl) hH (listed' := #[true, true, true, true, true, true, true, true, true, true, true, true, true]) (fuel := 0) (sy' := ⟨[(6, B false)], [(4, (24, [I o_.States, I o_.Kinds, I o_.Init, V (.slice a1 o_.Rows.length c1)]))]⟩) (by kernel_rfl) (by rfl) ?_
          intro a hS
          refine drawnDone (by kernel_rfl) ?_
          clear hD hH
          replace hS := hS.sel [6] [] (sy' := ⟨[(6, B false)], []⟩) (by kernel_rfl)
          refine wret ?_
          exact fin T hS hO (fun c => c) rfl (r := [.bool false]) (by kernel_rfl) (fun χ' hM hC => ⟨false, hm, rfl⟩)
end Go.Proofs.Ytnhdgebboafliaa
