/- Walks: each function returns what its condition asks. Condition: the contracts of its callees, handed in. -/
import Derived.Test.YtnhdgebboafliaaRVC
import Derived.Test.YtnhdgebboafliaaRReps
set_option linter.all false
namespace Go.Proofs.Ytnhdgebboafliaa
open Go Go.Sv
set_option maxHeartbeats 1000000
def S12 : Prop := ∀ (w : World) (χ : Nat → Nat) (o_ : Api_Object) (a1 : Option Addr) (c1 : Nat), RS tApi_Row w χ a1 o_.Rows c1 → Ret Try.prog 12 #[.agg #[.int .i64 o_.States, .int .i64 o_.Kinds, .int .i64 o_.Init, .slice a1 o_.Rows.length c1]] xnone w χ (fun w χ' v => v = .bool (law23_Few o_))
theorem hb12 : hasBody Try.prog 12 = true := by kernel_rfl
/-- replevin/replevinlaw23.Few -/
theorem W12 (w0 : World) (χ0 : Nat → Nat) (o_ : Api_Object) (a1 : Option Addr) (c1 : Nat) (Q : Bool → Prop) (hm : VC12 o_ Q) (h1 : RS tApi_Row w0 χ0 a1 o_.Rows c1) :
    Ret Try.prog 12 #[.agg #[.int .i64 o_.States, .int .i64 o_.Kinds, .int .i64 o_.Init, .slice a1 o_.Rows.length c1]] xnone w0 χ0 (fun w χ' v => ∃ r, Q r ∧ v = .bool r) := by
  unfold VC12 at hm
  replace hm := hm (h1.sm (by kernel_rfl))
  refine enter Try.func12 rfl (vals := [.agg #[.int .i64 o_.States, .int .i64 o_.Kinds, .int .i64 o_.Init, .slice a1 o_.Rows.length c1]]) (by kernel_rfl) ?_
  intro ρ a hS hO hM
  replace h1 := h1.m0 hM
  clear hM
  refine regM T hS (sp := []) (ks := [1]) (bs := [2]) (sy' := ⟨[(1, Pt 2 0)], [(2, (24, [I o_.States, I o_.Kinds, I o_.Init, V (.slice a1 o_.Rows.length c1)]))]⟩) (by kernel_rfl) ?_
  intro ρ a w101 χ102 hS hE hr
  replace hO := hO.mv hE rfl rfl
  replace h1 := h1.mv hE rfl
  clear hE hr
  refine regP T hS (sp := []) (ks := [2]) (bs := []) (sy' := ⟨[(2, B (decide (((o_.Rows.length : Nat) : Int) ≤ 300)))], []⟩) (by kernel_rfl) ?_
  intro a hS
  refine wret ?_
  exact fin T hS hO (fun c => c) rfl (r := [.bool (decide (((o_.Rows.length : Nat) : Int) ≤ 300))]) (by kernel_rfl) (fun χ' hM hC => ⟨(decide (((o_.Rows.length : Nat) : Int) ≤ 300)), hm, rfl⟩)
theorem C12 (v : ∀ (o_ : Api_Object), VC12 o_ (fun r => r = law23_Few o_)) : S12 := by
  intro w χ o_ a1 c1   h1
  refine (W12 w χ o_ a1 c1   _ (v o_) h1).mono ?_
  rintro _ _ _ _ ⟨r, rfl, h⟩
  exact h
def S19 : Prop := ∀ (w : World) (χ : Nat → Nat) (a_ : List Int) (b_ : List Int) (a1 : Option Addr) (c1 : Nat) (a2 : Option Addr) (c2 : Nat), RS tI w χ a1 a_ c1 → RS tI w χ a2 b_ c2 → Ret Try.prog 19 #[.slice a1 a_.length c1, .slice a2 b_.length c2] xnone w χ (fun w χ' v => v = .bool (ref01_SameInts a_ b_))
theorem hb19 : hasBody Try.prog 19 = true := by kernel_rfl
/-- replevin/replevinref01.SameInts -/
theorem W19 (w0 : World) (χ0 : Nat → Nat) (a_ : List Int) (b_ : List Int) (a1 : Option Addr) (c1 : Nat) (a2 : Option Addr) (c2 : Nat) (Q : Bool → Prop) (hm : VC19 a_ b_ Q) (h1 : RS tI w0 χ0 a1 a_ c1) (h2 : RS tI w0 χ0 a2 b_ c2) :
    Ret Try.prog 19 #[.slice a1 a_.length c1, .slice a2 b_.length c2] xnone w0 χ0 (fun w χ' v => ∃ r, Q r ∧ v = .bool r) := by
  unfold VC19 at hm
  replace hm := hm (h1.sm (by kernel_rfl))
  replace hm := hm (h2.sm (by kernel_rfl))
  refine enter Try.func19 rfl (vals := [.slice a1 a_.length c1, .slice a2 b_.length c2]) (by kernel_rfl) ?_
  intro ρ a hS hO hM
  replace h1 := h1.m0 hM
  replace h2 := h2.m0 hM
  clear hM
  refine regP T hS (sp := []) (ks := [0, 1]) (bs := []) (sy' := ⟨[(0, V (.slice a1 a_.length c1)), (1, V (.slice a2 b_.length c2))], []⟩) (by kernel_rfl) ?_
  intro a hS
  refine wseq ?_
  refine regP T hS (sp := []) (ks := [0, 1, 10]) (bs := []) (sy' := ⟨[(0, V (.slice a1 a_.length c1)), (1, V (.slice a2 b_.length c2)), (10, B (((a_.length : Nat) : Int) != ((b_.length : Nat) : Int)))], []⟩) (by kernel_rfl) ?_
  intro a hS
  refine wcond hS (b := (((a_.length : Nat) : Int) != ((b_.length : Nat) : Int))) (by kernel_rfl) (fun hb => ?_) (fun hb => ?_)
  · replace hm := hm.1 hb
    refine regP T hS (sp := []) (ks := [4]) (bs := []) (sy' := ⟨[(4, B false)], []⟩) (by kernel_rfl) ?_
    intro a hS
    refine wret ?_
    exact fin T hS hO (fun c => c) rfl (r := [.bool false]) (by kernel_rfl) (fun χ' hM hC => ⟨false, hm, rfl⟩)
  · replace hm := hm.2 hb
    refine wskip ?_
    refine wcut (fun a w => ∃ (ρ : Nat → Nat) (χ : Nat → Nat), VC19_J1 Q ∧ St Try.f19.ntmps ⟨[], []⟩ ρ a w χ ∧ Old w0 χ0 w χ) ?_ ?_
    · refine regP T hS (sp := []) (ks := [0, 1, 5]) (bs := []) (sy' := ⟨[(0, V (.slice a1 a_.length c1)), (1, V (.slice a2 b_.length c2)), (5, I 0)], []⟩) (by kernel_rfl) ?_
      intro a hS
      refine wblock ?_
      obtain ⟨I1, μ1, hm0, hm⟩ := hm
      refine wloop (σ := Int) (fun s a w => ∃ (ρ : Nat → Nat) (χ : Nat → Nat), I1 s ∧ St Try.f19.ntmps ⟨[(0, V (.slice a1 a_.length c1)), (1, V (.slice a2 b_.length c2)), (5, I s)], []⟩ ρ a w χ ∧ Old w0 χ0 w χ ∧ RS tI w χ a1 a_ c1 ∧ RS tI w χ a2 b_ c2) (fun s => μ1 s) (0) ?_ ?_
      · exact ⟨ρ, _, hm0, hS.sel [0, 1, 5] [] (by kernel_rfl), hO, h1, h2⟩
      · rintro i_103 a w112 ⟨ρ, χ111, hI, hS, hO, h101, h102⟩
        replace hm := hm i_103 hI
        clear hI hm0
        refine wseq ?_
        refine regP T hS (sp := []) (ks := [0, 1, 5, 14]) (bs := []) (sy' := ⟨[(0, V (.slice a1 a_.length c1)), (1, V (.slice a2 b_.length c2)), (5, I i_103), (14, B (decide (i_103 < ((a_.length : Nat) : Int))))], []⟩) (by kernel_rfl) ?_
        intro a hS
        refine wcond hS (b := decide (i_103 < ((a_.length : Nat) : Int))) (by kernel_rfl) (fun hb => ?_) (fun hb => ?_)
        · replace hm := hm.1 hb
          refine wskip ?_
          refine wseq ?_
          refine wblock ?_
          refine drawnS [] mixed hS ?_
          intro w104 hS hE hD hH
          replace hO := hO.mv hE rfl rfl
          replace h101 := h101.mv hE rfl
          replace h102 := h102.mv hE rfl
          clear hE
          refine take T [0, 1, 4, 5] [] [0, 1, 5, 17, 18, 21, 22] hS (by kernel_rfl) (by kernel_rfl) (by kernel_rfl) hH (listed' := #[true, true, false, false, true, true, false, false, false]) (fuel := 5) (sy' := ⟨[(0, V (.slice a1 a_.length c1)), (1, V (.slice a2 b_.length c2)), (5, I i_103), (17, V (.slice a1 a_.length c1)), (18, I i_103), (21, V (.slice a2 b_.length c2)), (22, I i_103)], []⟩) (by kernel_rfl) (by rfl) ?_
          intro a hS
          obtain ⟨hq, hm⟩ := hm
          refine dindex (e := 3) (k := .i64) T 2 hS (by kernel_rfl) (by kernel_rfl) (by kernel_rfl) (by rfl) (by kernel_rfl) hH (by kernel_rfl) (by kernel_rfl) h101 (by kernel_rfl) (by kernel_rfl) hq.1 hq.2 ?_
          intro A105 a h106 hS
          clear hq
          have h106b := h106.here
          refine dload1 T 3 hS (by kernel_rfl) (by kernel_rfl) (by kernel_rfl) (by rfl) (by kernel_rfl) hH (by kernel_rfl) h106 h106b rfl (by kernel_rfl) ?_
          intro v107 a hv hS
          cases hv
          obtain ⟨hq, hm⟩ := hm
          refine dindex (e := 3) (k := .i64) T 6 hS (by kernel_rfl) (by kernel_rfl) (by kernel_rfl) (by rfl) (by kernel_rfl) hH (by kernel_rfl) (by kernel_rfl) h102 (by kernel_rfl) (by kernel_rfl) hq.1 hq.2 ?_
          intro A108 a h109 hS
          clear hq
          have h109b := h109.here
          refine dload1 T 7 hS (by kernel_rfl) (by kernel_rfl) (by kernel_rfl) (by rfl) (by kernel_rfl) hH (by kernel_rfl) h109 h109b rfl (by kernel_rfl) ?_
          intro v110 a hv hS
          cases hv
          refine take T [8] [] [0, 1, 5, 25] hS (by kernel_rfl) (by kernel_rfl) (by kernel_rfl) hH (listed' := #[true, true, true, true, true, true, true, true, true]) (fuel := 0) (sy' := ⟨[(0, V (.slice a1 a_.length c1)), (1, V (.slice a2 b_.length c2)), (5, I i_103), (25, B ((gi a_ i_103) != (gi b_ i_103)))], []⟩) (by kernel_rfl) (by rfl) ?_
          intro a hS
          refine drawnDone (by kernel_rfl) ?_
          clear hD hH
          replace hS := hS.sel [0, 1, 5, 25] [] (sy' := ⟨[(0, V (.slice a1 a_.length c1)), (1, V (.slice a2 b_.length c2)), (5, I i_103), (25, B ((gi a_ i_103) != (gi b_ i_103)))], []⟩) (by kernel_rfl)
          refine wcond hS (b := ((gi a_ i_103) != (gi b_ i_103))) (by kernel_rfl) (fun hb => ?_) (fun hb => ?_)
          · replace hm := hm.1 hb
            refine regP T hS (sp := []) (ks := [4]) (bs := []) (sy' := ⟨[(4, B false)], []⟩) (by kernel_rfl) ?_
            intro a hS
            refine wret ?_
            exact fin T hS hO (fun c => c) rfl (r := [.bool false]) (by kernel_rfl) (fun χ' hM hC => ⟨false, hm, rfl⟩)
          · replace hm := hm.2 hb
            refine wskip ?_
            refine region (endP T hS (sp := []) (ks := [0, 1, 5]) (bs := []) (sy' := ⟨[(0, V (.slice a1 a_.length c1)), (1, V (.slice a2 b_.length c2)), (5, I (IntKind.i64.wrap (i_103 + 1)))], []⟩) (by kernel_rfl) ?_)
            intro a hS
            exact ⟨IntKind.i64.wrap (i_103 + 1), ⟨ρ, _, hm.1, hS.sel [0, 1, 5] [] (by kernel_rfl), hO, h101, h102⟩, hm.2⟩
        · replace hm := hm.2 hb
          refine wexit (by rfl) ?_
          exact ⟨ρ, _, hm, hS.sel [] [] (by kernel_rfl), hO⟩
    · rintro a w114 ⟨ρ, χ113, hm, hS, hO⟩
      unfold VC19_J1 at hm
      refine regP T hS (sp := []) (ks := [4]) (bs := []) (sy' := ⟨[(4, B true)], []⟩) (by kernel_rfl) ?_
      intro a hS
      refine wret ?_
      exact fin T hS hO (fun c => c) rfl (r := [.bool true]) (by kernel_rfl) (fun χ' hM hC => ⟨true, hm, rfl⟩)
theorem C19 (v : ∀ (a_ : List Int) (b_ : List Int), VC19 a_ b_ (fun r => r = ref01_SameInts a_ b_)) : S19 := by
  intro w χ a_ b_ a1 c1 a2 c2   h1 h2
  refine (W19 w χ a_ b_ a1 c1 a2 c2   _ (v a_ b_) h1 h2).mono ?_
  rintro _ _ _ _ ⟨r, rfl, h⟩
  exact h
def S43 : Prop := ∀ (w : World) (χ : Nat → Nat) (o_ : Api_Object) (a1 : Option Addr) (c1 : Nat), RS tApi_Row w χ a1 o_.Rows c1 → Ret Try.prog 43 #[.agg #[.int .i64 o_.States, .int .i64 o_.Kinds, .int .i64 o_.Init, .slice a1 o_.Rows.length c1]] xnone w χ (fun w χ' v => v = .tuple #[.int .i64 ((ref23_Check o_).1), .int .i64 ((ref23_Check o_).2)])
theorem hb43 : hasBody Try.prog 43 = true := by kernel_rfl
/-- replevin/replevinref23.Check -/
theorem W43 (w0 : World) (χ0 : Nat → Nat) (o_ : Api_Object) (a1 : Option Addr) (c1 : Nat) (Q : Int × Int → Prop) (hm : VC43 o_ Q) (h1 : RS tApi_Row w0 χ0 a1 o_.Rows c1) :
    Ret Try.prog 43 #[.agg #[.int .i64 o_.States, .int .i64 o_.Kinds, .int .i64 o_.Init, .slice a1 o_.Rows.length c1]] xnone w0 χ0 (fun w χ' v => ∃ r, Q r ∧ v = .tuple #[.int .i64 r.1, .int .i64 r.2]) := by
  unfold VC43 at hm
  replace hm := hm (h1.sm (by kernel_rfl))
  refine enter Try.func43 rfl (vals := [.agg #[.int .i64 o_.States, .int .i64 o_.Kinds, .int .i64 o_.Init, .slice a1 o_.Rows.length c1]]) (by kernel_rfl) ?_
  intro ρ a hS hO hM
  replace h1 := h1.m0 hM
  clear hM
  refine regM T hS (sp := []) (ks := [1]) (bs := [2]) (sy' := ⟨[(1, Pt 2 0)], [(2, (24, [I o_.States, I o_.Kinds, I o_.Init, V (.slice a1 o_.Rows.length c1)]))]⟩) (by kernel_rfl) ?_
  intro ρ a w133 χ134 hS hE hr
  replace hO := hO.mv hE rfl rfl
  replace h1 := h1.mv hE rfl
  clear hE hr
  refine wseq ?_
  refine regP T hS (sp := [9, 14, 19, 24, 29]) (ks := [1, 35]) (bs := [2]) (sy' := ⟨[(1, Pt 2 0), (35, B ((((((decide (o_.States < 1)) || (decide (o_.States > 32))) || (decide (o_.Kinds < 1))) || (decide (o_.Kinds > 64))) || (decide (o_.Init < 0))) || (decide (o_.Init ≥ o_.States))))], [(2, (24, [I o_.States, I o_.Kinds, I o_.Init, V (.slice a1 o_.Rows.length c1)]))]⟩) (by kernel_rfl) ?_
  intro a hS
  refine wcond hS (b := ((((((decide (o_.States < 1)) || (decide (o_.States > 32))) || (decide (o_.Kinds < 1))) || (decide (o_.Kinds > 64))) || (decide (o_.Init < 0))) || (decide (o_.Init ≥ o_.States)))) (by kernel_rfl) (fun hb => ?_) (fun hb => ?_)
  · replace hm := hm.1 hb
    refine regP T hS (sp := []) (ks := [2, 3]) (bs := []) (sy' := ⟨[(2, I (-1)), (3, I 2)], []⟩) (by kernel_rfl) ?_
    intro a hS
    refine wret ?_
    exact fin T hS hO (fun c => c) rfl (r := [.int .i64 (-1), .int .i64 2]) (by kernel_rfl) (fun χ' hM hC => ⟨((-1), 2), hm, rfl⟩)
  · replace hm := hm.2 hb
    refine wskip ?_
    refine wcut (fun a w => ∃ (ρ : Nat → Nat) (χ : Nat → Nat), VC43_J1 o_ Q ∧ St Try.f43.ntmps ⟨[(1, Pt 2 0)], [(2, (24, [I o_.States, I o_.Kinds, I o_.Init, V (.slice a1 o_.Rows.length c1)]))]⟩ ρ a w χ ∧ Old w0 χ0 w χ ∧ RS tApi_Row w χ a1 o_.Rows c1) ?_ ?_
    · refine regP T hS (sp := []) (ks := [1, 4]) (bs := [2]) (sy' := ⟨[(1, Pt 2 0), (4, I 0)], [(2, (24, [I o_.States, I o_.Kinds, I o_.Init, V (.slice a1 o_.Rows.length c1)]))]⟩) (by kernel_rfl) ?_
      intro a hS
      refine wblock ?_
      obtain ⟨I1, μ1, hm0, hm⟩ := hm
      refine wloop (σ := Int) (fun s a w => ∃ (ρ : Nat → Nat) (χ : Nat → Nat), I1 s ∧ St Try.f43.ntmps ⟨[(1, Pt 2 0), (4, I s)], [(2, (24, [I o_.States, I o_.Kinds, I o_.Init, V (.slice a1 o_.Rows.length c1)]))]⟩ ρ a w χ ∧ Old w0 χ0 w χ ∧ RS tApi_Row w χ a1 o_.Rows c1) (fun s => μ1 s) (0) ?_ ?_
      · exact ⟨ρ, _, hm0, hS.sel [1, 4] [2] (by kernel_rfl), hO, h1⟩
      · rintro i_102 a w130 ⟨ρ, χ129, hI, hS, hO, h103⟩
        replace hm := hm i_102 hI
        clear hI hm0
        refine wseq ?_
        refine regP T hS (sp := []) (ks := [1, 4, 40]) (bs := [2]) (sy' := ⟨[(1, Pt 2 0), (4, I i_102), (40, B (decide (i_102 < ((o_.Rows.length : Nat) : Int))))], [(2, (24, [I o_.States, I o_.Kinds, I o_.Init, V (.slice a1 o_.Rows.length c1)]))]⟩) (by kernel_rfl) ?_
        intro a hS
        refine wcond hS (b := decide (i_102 < ((o_.Rows.length : Nat) : Int))) (by kernel_rfl) (fun hb => ?_) (fun hb => ?_)
        · replace hm := hm.1 hb
          refine wskip ?_
          refine wseq ?_
          refine wblock ?_
          refine regO ?_
          refine opsP T hS 3 (sp := []) (ks := [1, 4, 44, 45]) (bs := [2]) (sy' := ⟨[(1, Pt 2 0), (4, I i_102), (44, V (.slice a1 o_.Rows.length c1)), (45, I i_102)], [(2, (24, [I o_.States, I o_.Kinds, I o_.Init, V (.slice a1 o_.Rows.length c1)]))]⟩) (by kernel_rfl) ?_
          intro a hS
          obtain ⟨hq, hm⟩ := hm
          refine op1 (index (e := 102) (k := .i64) T hS (by kernel_rfl) (by kernel_rfl) (by kernel_rfl) (by kernel_rfl) h103 (by kernel_rfl) (by kernel_rfl) hq.1 hq.2 ?_)
          intro A104 a h105 hS
          clear hq
          refine op1 (loadA T hS (by kernel_rfl) (by kernel_rfl) (by kernel_rfl) h105 (by kernel_rfl) (by kernel_rfl) ?_)
          intro v106 a hv hS
          subst hv
          refine endM T hS (sp := []) (ks := [1, 4, 5]) (bs := [2, 6]) (sy' := ⟨[(1, Pt 2 0), (4, I i_102), (5, Pt 6 0)], [(2, (24, [I o_.States, I o_.Kinds, I o_.Init, V (.slice a1 o_.Rows.length c1)])), (6, (102, [I ((gi o_.Rows i_102).State), I ((gi o_.Rows i_102).Kind), I ((gi o_.Rows i_102).Next), I ((gi o_.Rows i_102).Result)]))]⟩) (by kernel_rfl) ?_
          intro ρ a w127 χ128 hS hE hr
          replace hO := hO.mv hE rfl rfl
          replace h103 := h103.mv hE rfl
          clear hE hr
          refine wseq ?_
          refine regP T hS (sp := [51, 58, 63]) (ks := [1, 4, 5, 69]) (bs := [2, 6]) (sy' := ⟨[(1, Pt 2 0), (4, I i_102), (5, Pt 6 0), (69, B ((((decide (((gi o_.Rows i_102).State) < 0)) || (decide (((gi o_.Rows i_102).State) ≥ o_.States))) || (decide (((gi o_.Rows i_102).Next) < 0))) || (decide (((gi o_.Rows i_102).Next) ≥ o_.States))))], [(2, (24, [I o_.States, I o_.Kinds, I o_.Init, V (.slice a1 o_.Rows.length c1)])), (6, (102, [I ((gi o_.Rows i_102).State), I ((gi o_.Rows i_102).Kind), I ((gi o_.Rows i_102).Next), I ((gi o_.Rows i_102).Result)]))]⟩) (by kernel_rfl) ?_
          intro a hS
          refine wcond hS (b := ((((decide (((gi o_.Rows i_102).State) < 0)) || (decide (((gi o_.Rows i_102).State) ≥ o_.States))) || (decide (((gi o_.Rows i_102).Next) < 0))) || (decide (((gi o_.Rows i_102).Next) ≥ o_.States)))) (by kernel_rfl) (fun hb => ?_) (fun hb => ?_)
          · replace hm := hm.1 hb
            refine regP T hS (sp := []) (ks := [2, 3]) (bs := []) (sy' := ⟨[(2, I i_102), (3, I 30)], []⟩) (by kernel_rfl) ?_
            intro a hS
            refine wret ?_
            exact fin T hS hO (fun c => c) rfl (r := [.int .i64 i_102, .int .i64 30]) (by kernel_rfl) (fun χ' hM hC => ⟨(i_102, 30), hm, rfl⟩)
          · replace hm := hm.2 hb
            refine wskip ?_
            refine wseq ?_
            refine regP T hS (sp := [74]) (ks := [1, 4, 5, 80]) (bs := [2, 6]) (sy' := ⟨[(1, Pt 2 0), (4, I i_102), (5, Pt 6 0), (80, B ((decide (((gi o_.Rows i_102).Kind) < 0)) || (decide (((gi o_.Rows i_102).Kind) ≥ o_.Kinds))))], [(2, (24, [I o_.States, I o_.Kinds, I o_.Init, V (.slice a1 o_.Rows.length c1)])), (6, (102, [I ((gi o_.Rows i_102).State), I ((gi o_.Rows i_102).Kind), I ((gi o_.Rows i_102).Next), I ((gi o_.Rows i_102).Result)]))]⟩) (by kernel_rfl) ?_
            intro a hS
            refine wcond hS (b := ((decide (((gi o_.Rows i_102).Kind) < 0)) || (decide (((gi o_.Rows i_102).Kind) ≥ o_.Kinds)))) (by kernel_rfl) (fun hb => ?_) (fun hb => ?_)
            · replace hm := hm.1 hb
              refine regP T hS (sp := []) (ks := [2, 3]) (bs := []) (sy' := ⟨[(2, I i_102), (3, I 31)], []⟩) (by kernel_rfl) ?_
              intro a hS
              refine wret ?_
              exact fin T hS hO (fun c => c) rfl (r := [.int .i64 i_102, .int .i64 31]) (by kernel_rfl) (fun χ' hM hC => ⟨(i_102, 31), hm, rfl⟩)
            · replace hm := hm.2 hb
              refine wskip ?_
              refine wseq ?_
              refine regP T hS (sp := [85]) (ks := [1, 4, 5, 89]) (bs := [2, 6]) (sy' := ⟨[(1, Pt 2 0), (4, I i_102), (5, Pt 6 0), (89, B ((decide (((gi o_.Rows i_102).Result) < 0)) || (decide (((gi o_.Rows i_102).Result) > 1000000))))], [(2, (24, [I o_.States, I o_.Kinds, I o_.Init, V (.slice a1 o_.Rows.length c1)])), (6, (102, [I ((gi o_.Rows i_102).State), I ((gi o_.Rows i_102).Kind), I ((gi o_.Rows i_102).Next), I ((gi o_.Rows i_102).Result)]))]⟩) (by kernel_rfl) ?_
              intro a hS
              refine wcond hS (b := ((decide (((gi o_.Rows i_102).Result) < 0)) || (decide (((gi o_.Rows i_102).Result) > 1000000)))) (by kernel_rfl) (fun hb => ?_) (fun hb => ?_)
              · replace hm := hm.1 hb
                refine regP T hS (sp := []) (ks := [2, 3]) (bs := []) (sy' := ⟨[(2, I i_102), (3, I 7)], []⟩) (by kernel_rfl) ?_
                intro a hS
                refine wret ?_
                exact fin T hS hO (fun c => c) rfl (r := [.int .i64 i_102, .int .i64 7]) (by kernel_rfl) (fun χ' hM hC => ⟨(i_102, 7), hm, rfl⟩)
              · replace hm := hm.2 hb
                refine wskip ?_
                refine wcut (fun a w => ∃ (ρ : Nat → Nat) (χ : Nat → Nat) (x_107 : Bool), VC43_J2 Q I1 μ1 i_102 x_107 ∧ St Try.f43.ntmps ⟨[(1, Pt 2 0), (4, I i_102), (128, B x_107)], [(2, (24, [I o_.States, I o_.Kinds, I o_.Init, V (.slice a1 o_.Rows.length c1)]))]⟩ ρ a w χ ∧ Old w0 χ0 w χ ∧ RS tApi_Row w χ a1 o_.Rows c1) ?_ ?_
                · refine drawn [2, 6] mixed hS ?_
                  intro w109 hS hE hD hH
                  replace hO := hO.mv hE rfl rfl
                  replace h103 := h103.mv hE rfl
                  clear hE
                  refine take T [0, 1, 2] [2, 6] [1, 4, 5, 93] hS (by kernel_rfl) (by kernel_rfl) (by kernel_rfl) hH (listed' := #[true, true, true, false, false, false, false, false, false, false, false, false, false, false, false, false, false, false, false, false, false, false, false, false, false, false, false, false, false, false, false, false, false, false, false, false, false, false]) (fuel := 35) (sy' := ⟨[(1, Pt 2 0), (4, I i_102), (5, Pt 6 0), (93, B (decide (i_102 > 0)))], [(2, (24, [I o_.States, I o_.Kinds, I o_.Init, V (.slice a1 o_.Rows.length c1)])), (6, (102, [I ((gi o_.Rows i_102).State), I ((gi o_.Rows i_102).Kind), I ((gi o_.Rows i_102).Next), I ((gi o_.Rows i_102).Result)]))]⟩) (by as_aux_lemma => kernel_rfl) (by rfl) ?_
                  intro a hS
                  rcases Bool.eq_false_or_eq_true (decide (i_102 > 0)) with hb | hb
                  · replace hS := hS.lit (t := 93) (by kernel_rfl) hb
                    replace hm := hm.1 hb
                    refine take T [3, 5, 10, 4, 6, 11] [2, 6] [1, 4, 5, 93, 94, 95, 96, 97, 101, 102] hS (by kernel_rfl) (by kernel_rfl) (by kernel_rfl) hH (listed' := #[true, true, true, true, true, true, true, false, false, false, true, true, false, false, false, false, false, false, false, false, false, false, false, false, false, false, false, false, false, false, false, false, false, false, false, false, false, false]) (fuel := 29) (sy' := ⟨[(1, Pt 2 0), (4, I i_102), (5, Pt 6 0), (93, B true), (94, Pt 2 3), (95, V (.slice a1 o_.Rows.length c1)), (96, I i_102), (97, I (IntKind.i64.wrap (i_102 - 1))), (101, Pt 6 0), (102, I ((gi o_.Rows i_102).State))], [(2, (24, [I o_.States, I o_.Kinds, I o_.Init, V (.slice a1 o_.Rows.length c1)])), (6, (102, [I ((gi o_.Rows i_102).State), I ((gi o_.Rows i_102).Kind), I ((gi o_.Rows i_102).Next), I ((gi o_.Rows i_102).Result)]))]⟩) (by as_aux_lemma => kernel_rfl) (by rfl) ?_
                    intro a hS
                    obtain ⟨hq, hm⟩ := hm
                    refine dindex (e := 102) (k := .i64) T 7 hS (by kernel_rfl) (by kernel_rfl) (by kernel_rfl) (by rfl) (by kernel_rfl) hH (by kernel_rfl) (by kernel_rfl) h103 (by kernel_rfl) (by kernel_rfl) hq.1 hq.2 ?_
                    intro A110 a h111 hS
                    clear hq
                    have h111b := h111.here
                    refine dfieldA (off := 0) (fsz := 1) (ft := 3) (TF := tI) (y := (gi o_.Rows (IntKind.i64.wrap (i_102 - 1))).State) 8 T hS (by kernel_rfl) (by kernel_rfl) (by kernel_rfl) (by rfl) (by kernel_rfl) hH (by kernel_rfl) h111 (by kernel_rfl) (by kernel_rfl) (by kernel_rfl) (fun cs h => Api_Row_f0 h) ?_
                    intro A112 a h113 hbl hS
                    have h113b := h111b
                    rw [← hbl] at h113b
                    clear hbl
                    refine dload1 T 9 hS (by kernel_rfl) (by kernel_rfl) (by kernel_rfl) (by rfl) (by kernel_rfl) hH (by kernel_rfl) h113 h113b rfl (by kernel_rfl) ?_
                    intro v114 a hv hS
                    cases hv
                    refine take T [12, 13] [2, 6] [1, 4, 5, 93, 94, 95, 96, 97, 98, 99, 100, 101, 102, 103, 104] hS (by kernel_rfl) (by kernel_rfl) (by kernel_rfl) hH (listed' := #[true, true, true, true, true, true, true, true, true, true, true, true, true, true, false, false, false, false, false, false, false, false, false, false, false, false, false, false, false, false, false, false, false, false, false, false, false, false]) (fuel := 24) (sy' := ⟨[(1, Pt 2 0), (4, I i_102), (5, Pt 6 0), (93, B true), (94, Pt 2 3), (95, V (.slice a1 o_.Rows.length c1)), (96, I i_102), (97, I (IntKind.i64.wrap (i_102 - 1))), (98, V (.pointer (some A110))), (99, V (.pointer (some A112))), (100, I ((gi o_.Rows (IntKind.i64.wrap (i_102 - 1))).State)), (101, Pt 6 0), (102, I ((gi o_.Rows i_102).State)), (103, B (decide (((gi o_.Rows (IntKind.i64.wrap (i_102 - 1))).State) > ((gi o_.Rows i_102).State)))), (104, B (decide (((gi o_.Rows (IntKind.i64.wrap (i_102 - 1))).State) > ((gi o_.Rows i_102).State))))], [(2, (24, [I o_.States, I o_.Kinds, I o_.Init, V (.slice a1 o_.Rows.length c1)])), (6, (102, [I ((gi o_.Rows i_102).State), I ((gi o_.Rows i_102).Kind), I ((gi o_.Rows i_102).Next), I ((gi o_.Rows i_102).Result)]))]⟩) (by as_aux_lemma => kernel_rfl) (by rfl) ?_
                    intro a hS
                    rcases Bool.eq_false_or_eq_true (decide (((gi o_.Rows (IntKind.i64.wrap (i_102 - 1))).State) > ((gi o_.Rows i_102).State))) with hb | hb
                    · replace hS := hS.lit (t := 104) (by kernel_rfl) hb
                      replace hm := hm.1 hb
                      refine take T [14, 16, 21, 15, 17, 22, 18, 19, 20, 23, 24, 25, 27, 32, 26, 28, 33, 29, 30, 31, 34, 35, 36, 37] [2, 6] [1, 4, 94, 95, 96, 97, 98, 99, 100, 101, 102, 103, 104, 105, 106, 107, 108, 109, 110, 111, 112, 113, 114, 115, 116, 117, 118, 119, 120, 121, 122, 123, 124, 125, 126, 127, 128] hS (by kernel_rfl) (by kernel_rfl) (by kernel_rfl) hH (listed' := #[true, true, true, true, true, true, true, true, true, true, true, true, true, true, true, true, true, true, true, true, true, true, true, true, true, true, true, true, true, true, true, true, true, true, true, true, true, true]) (fuel := 0) (sy' := ⟨[(1, Pt 2 0), (4, I i_102), (94, Pt 2 3), (95, V (.slice a1 o_.Rows.length c1)), (96, I i_102), (97, I (IntKind.i64.wrap (i_102 - 1))), (98, V (.pointer (some A110))), (99, V (.pointer (some A112))), (100, I ((gi o_.Rows (IntKind.i64.wrap (i_102 - 1))).State)), (101, Pt 6 0), (102, I ((gi o_.Rows i_102).State)), (103, B (decide (((gi o_.Rows (IntKind.i64.wrap (i_102 - 1))).State) > ((gi o_.Rows i_102).State)))), (104, B true), (105, V undef), (106, V undef), (107, V undef), (108, V undef), (109, V undef), (110, V undef), (111, V undef), (112, V undef), (113, V undef), (114, V undef), (115, V undef), (116, V undef), (117, V undef), (118, V undef), (119, V undef), (120, V undef), (121, V undef), (122, V undef), (123, V undef), (124, V undef), (125, V undef), (126, V undef), (127, B true), (128, B true)], [(2, (24, [I o_.States, I o_.Kinds, I o_.Init, V (.slice a1 o_.Rows.length c1)])), (6, (102, [I ((gi o_.Rows i_102).State), I ((gi o_.Rows i_102).Kind), I ((gi o_.Rows i_102).Next), I ((gi o_.Rows i_102).Result)]))]⟩) (by as_aux_lemma => kernel_rfl) (by rfl) ?_
                      intro a hS
                      refine drawnDone (by kernel_rfl) ?_
                      clear hD hH
                      replace hS := hS.sel [1, 4, 94, 95, 96, 97, 98, 99, 100, 101, 102, 103, 104, 127, 128] [2, 6] (sy' := ⟨[(1, Pt 2 0), (4, I i_102), (94, Pt 2 3), (95, V (.slice a1 o_.Rows.length c1)), (96, I i_102), (97, I (IntKind.i64.wrap (i_102 - 1))), (98, V (.pointer (some A110))), (99, V (.pointer (some A112))), (100, I ((gi o_.Rows (IntKind.i64.wrap (i_102 - 1))).State)), (101, Pt 6 0), (102, I ((gi o_.Rows i_102).State)), (103, B (decide (((gi o_.Rows (IntKind.i64.wrap (i_102 - 1))).State) > ((gi o_.Rows i_102).State)))), (104, B true), (127, B true), (128, B true)], [(2, (24, [I o_.States, I o_.Kinds, I o_.Init, V (.slice a1 o_.Rows.length c1)])), (6, (102, [I ((gi o_.Rows i_102).State), I ((gi o_.Rows i_102).Kind), I ((gi o_.Rows i_102).Next), I ((gi o_.Rows i_102).Result)]))]⟩) (by kernel_rfl)
                      exact ⟨ρ, _, true, hm, hS.sel [1, 4, 128] [2] (by kernel_rfl), hO, h103⟩
                    · replace hS := hS.lit (t := 104) (by kernel_rfl) hb
                      replace hm := hm.2 hb
                      refine take T [14, 16, 21, 15, 17, 22] [2, 6] [1, 4, 5, 93, 94, 95, 96, 97, 98, 99, 100, 101, 102, 103, 104, 105, 106, 107, 108, 112, 113] hS (by kernel_rfl) (by kernel_rfl) (by kernel_rfl) hH (listed' := #[true, true, true, true, true, true, true, true, true, true, true, true, true, true, true, true, true, true, false, false, false, true, true, false, false, false, false, false, false, false, false, false, false, false, false, false, false, false]) (fuel := 18) (sy' := ⟨[(1, Pt 2 0), (4, I i_102), (5, Pt 6 0), (93, B true), (94, Pt 2 3), (95, V (.slice a1 o_.Rows.length c1)), (96, I i_102), (97, I (IntKind.i64.wrap (i_102 - 1))), (98, V (.pointer (some A110))), (99, V (.pointer (some A112))), (100, I ((gi o_.Rows (IntKind.i64.wrap (i_102 - 1))).State)), (101, Pt 6 0), (102, I ((gi o_.Rows i_102).State)), (103, B (decide (((gi o_.Rows (IntKind.i64.wrap (i_102 - 1))).State) > ((gi o_.Rows i_102).State)))), (104, B false), (105, Pt 2 3), (106, V (.slice a1 o_.Rows.length c1)), (107, I i_102), (108, I (IntKind.i64.wrap (i_102 - 1))), (112, Pt 6 0), (113, I ((gi o_.Rows i_102).State))], [(2, (24, [I o_.States, I o_.Kinds, I o_.Init, V (.slice a1 o_.Rows.length c1)])), (6, (102, [I ((gi o_.Rows i_102).State), I ((gi o_.Rows i_102).Kind), I ((gi o_.Rows i_102).Next), I ((gi o_.Rows i_102).Result)]))]⟩) (by as_aux_lemma => kernel_rfl) (by rfl) ?_
                      intro a hS
                      obtain ⟨hq, hm⟩ := hm
                      refine dindex (e := 102) (k := .i64) T 18 hS (by kernel_rfl) (by kernel_rfl) (by kernel_rfl) (by rfl) (by kernel_rfl) hH (by kernel_rfl) (by kernel_rfl) h103 (by kernel_rfl) (by kernel_rfl) hq.1 hq.2 ?_
                      intro A115 a h116 hS
                      clear hq
                      have h116b := h116.here
                      refine dfieldA (off := 0) (fsz := 1) (ft := 3) (TF := tI) (y := (gi o_.Rows (IntKind.i64.wrap (i_102 - 1))).State) 19 T hS (by kernel_rfl) (by kernel_rfl) (by kernel_rfl) (by rfl) (by kernel_rfl) hH (by kernel_rfl) h116 (by kernel_rfl) (by kernel_rfl) (by kernel_rfl) (fun cs h => Api_Row_f0 h) ?_
                      intro A117 a h118 hbl hS
                      have h118b := h116b
                      rw [← hbl] at h118b
                      clear hbl
                      refine dload1 T 20 hS (by kernel_rfl) (by kernel_rfl) (by kernel_rfl) (by rfl) (by kernel_rfl) hH (by kernel_rfl) h118 h118b rfl (by kernel_rfl) ?_
                      intro v119 a hv hS
                      cases hv
                      refine take T [23, 24] [2, 6] [1, 4, 5, 93, 94, 95, 96, 97, 98, 99, 100, 101, 102, 103, 104, 105, 106, 107, 108, 109, 110, 111, 112, 113, 114, 115] hS (by kernel_rfl) (by kernel_rfl) (by kernel_rfl) hH (listed' := #[true, true, true, true, true, true, true, true, true, true, true, true, true, true, true, true, true, true, true, true, true, true, true, true, true, false, false, false, false, false, false, false, false, false, false, false, false, false]) (fuel := 13) (sy' := ⟨[(1, Pt 2 0), (4, I i_102), (5, Pt 6 0), (93, B true), (94, Pt 2 3), (95, V (.slice a1 o_.Rows.length c1)), (96, I i_102), (97, I (IntKind.i64.wrap (i_102 - 1))), (98, V (.pointer (some A110))), (99, V (.pointer (some A112))), (100, I ((gi o_.Rows (IntKind.i64.wrap (i_102 - 1))).State)), (101, Pt 6 0), (102, I ((gi o_.Rows i_102).State)), (103, B (decide (((gi o_.Rows (IntKind.i64.wrap (i_102 - 1))).State) > ((gi o_.Rows i_102).State)))), (104, B false), (105, Pt 2 3), (106, V (.slice a1 o_.Rows.length c1)), (107, I i_102), (108, I (IntKind.i64.wrap (i_102 - 1))), (109, V (.pointer (some A115))), (110, V (.pointer (some A117))), (111, I ((gi o_.Rows (IntKind.i64.wrap (i_102 - 1))).State)), (112, Pt 6 0), (113, I ((gi o_.Rows i_102).State)), (114, B (((gi o_.Rows (IntKind.i64.wrap (i_102 - 1))).State) == ((gi o_.Rows i_102).State))), (115, B (((gi o_.Rows (IntKind.i64.wrap (i_102 - 1))).State) == ((gi o_.Rows i_102).State)))], [(2, (24, [I o_.States, I o_.Kinds, I o_.Init, V (.slice a1 o_.Rows.length c1)])), (6, (102, [I ((gi o_.Rows i_102).State), I ((gi o_.Rows i_102).Kind), I ((gi o_.Rows i_102).Next), I ((gi o_.Rows i_102).Result)]))]⟩) (by as_aux_lemma => kernel_rfl) (by rfl) ?_
                      intro a hS
                      rcases Bool.eq_false_or_eq_true (((gi o_.Rows (IntKind.i64.wrap (i_102 - 1))).State) == ((gi o_.Rows i_102).State)) with hb | hb
                      · replace hS := hS.lit (t := 115) (by kernel_rfl) hb
                        replace hm := hm.1 hb
                        refine take T [25, 27, 32, 26, 28, 33] [2, 6] [1, 4, 93, 94, 95, 96, 97, 98, 99, 100, 101, 102, 103, 104, 105, 106, 107, 108, 109, 110, 111, 112, 113, 114, 115, 116, 117, 118, 119, 123, 124] hS (by kernel_rfl) (by kernel_rfl) (by kernel_rfl) hH (listed' := #[true, true, true, true, true, true, true, true, true, true, true, true, true, true, true, true, true, true, true, true, true, true, true, true, true, true, true, true, true, false, false, false, true, true, false, false, false, false]) (fuel := 7) (sy' := ⟨[(1, Pt 2 0), (4, I i_102), (93, B true), (94, Pt 2 3), (95, V (.slice a1 o_.Rows.length c1)), (96, I i_102), (97, I (IntKind.i64.wrap (i_102 - 1))), (98, V (.pointer (some A110))), (99, V (.pointer (some A112))), (100, I ((gi o_.Rows (IntKind.i64.wrap (i_102 - 1))).State)), (101, Pt 6 0), (102, I ((gi o_.Rows i_102).State)), (103, B (decide (((gi o_.Rows (IntKind.i64.wrap (i_102 - 1))).State) > ((gi o_.Rows i_102).State)))), (104, B false), (105, Pt 2 3), (106, V (.slice a1 o_.Rows.length c1)), (107, I i_102), (108, I (IntKind.i64.wrap (i_102 - 1))), (109, V (.pointer (some A115))), (110, V (.pointer (some A117))), (111, I ((gi o_.Rows (IntKind.i64.wrap (i_102 - 1))).State)), (112, Pt 6 0), (113, I ((gi o_.Rows i_102).State)), (114, B (((gi o_.Rows (IntKind.i64.wrap (i_102 - 1))).State) == ((gi o_.Rows i_102).State))), (115, B true), (116, Pt 2 3), (117, V (.slice a1 o_.Rows.length c1)), (118, I i_102), (119, I (IntKind.i64.wrap (i_102 - 1))), (123, Pt 6 1), (124, I ((gi o_.Rows i_102).Kind))], [(2, (24, [I o_.States, I o_.Kinds, I o_.Init, V (.slice a1 o_.Rows.length c1)])), (6, (102, [I ((gi o_.Rows i_102).State), I ((gi o_.Rows i_102).Kind), I ((gi o_.Rows i_102).Next), I ((gi o_.Rows i_102).Result)]))]⟩) (by as_aux_lemma => kernel_rfl) (by rfl) ?_
                        intro a hS
                        obtain ⟨hq, hm⟩ := hm
                        refine dindex (e := 102) (k := .i64) T 29 hS (by kernel_rfl) (by kernel_rfl) (by kernel_rfl) (by rfl) (by kernel_rfl) hH (by kernel_rfl) (by kernel_rfl) h103 (by kernel_rfl) (by kernel_rfl) hq.1 hq.2 ?_
                        intro A120 a h121 hS
                        clear hq
                        have h121b := h121.here
                        refine dfieldA (off := 1) (fsz := 1) (ft := 3) (TF := tI) (y := (gi o_.Rows (IntKind.i64.wrap (i_102 - 1))).Kind) 30 T hS (by kernel_rfl) (by kernel_rfl) (by kernel_rfl) (by rfl) (by kernel_rfl) hH (by kernel_rfl) h121 (by kernel_rfl) (by kernel_rfl) (by kernel_rfl) (fun cs h => Api_Row_f1 h) ?_
                        intro A122 a h123 hbl hS
                        have h123b := h121b
                        rw [← hbl] at h123b
                        clear hbl
                        refine dload1 T 31 hS (by kernel_rfl) (by kernel_rfl) (by kernel_rfl) (by rfl) (by kernel_rfl) hH (by kernel_rfl) h123 h123b rfl (by kernel_rfl) ?_
                        intro v124 a hv hS
                        cases hv
                        refine take T [34, 35, 36, 37] [2, 6] [1, 4, 94, 95, 96, 97, 98, 99, 100, 101, 102, 103, 104, 105, 106, 107, 108, 109, 110, 111, 112, 113, 114, 115, 116, 117, 118, 119, 120, 121, 122, 123, 124, 125, 126, 127, 128] hS (by kernel_rfl) (by kernel_rfl) (by kernel_rfl) hH (listed' := #[true, true, true, true, true, true, true, true, true, true, true, true, true, true, true, true, true, true, true, true, true, true, true, true, true, true, true, true, true, true, true, true, true, true, true, true, true, true]) (fuel := 0) (sy' := ⟨[(1, Pt 2 0), (4, I i_102), (94, Pt 2 3), (95, V (.slice a1 o_.Rows.length c1)), (96, I i_102), (97, I (IntKind.i64.wrap (i_102 - 1))), (98, V (.pointer (some A110))), (99, V (.pointer (some A112))), (100, I ((gi o_.Rows (IntKind.i64.wrap (i_102 - 1))).State)), (101, Pt 6 0), (102, I ((gi o_.Rows i_102).State)), (103, B (decide (((gi o_.Rows (IntKind.i64.wrap (i_102 - 1))).State) > ((gi o_.Rows i_102).State)))), (104, B false), (105, Pt 2 3), (106, V (.slice a1 o_.Rows.length c1)), (107, I i_102), (108, I (IntKind.i64.wrap (i_102 - 1))), (109, V (.pointer (some A115))), (110, V (.pointer (some A117))), (111, I ((gi o_.Rows (IntKind.i64.wrap (i_102 - 1))).State)), (112, Pt 6 0), (113, I ((gi o_.Rows i_102).State)), (114, B (((gi o_.Rows (IntKind.i64.wrap (i_102 - 1))).State) == ((gi o_.Rows i_102).State))), (115, B true), (116, Pt 2 3), (117, V (.slice a1 o_.Rows.length c1)), (118, I i_102), (119, I (IntKind.i64.wrap (i_102 - 1))), (120, V (.pointer (some A120))), (121, V (.pointer (some A122))), (122, I ((gi o_.Rows (IntKind.i64.wrap (i_102 - 1))).Kind)), (123, Pt 6 1), (124, I ((gi o_.Rows i_102).Kind)), (125, B (decide (((gi o_.Rows (IntKind.i64.wrap (i_102 - 1))).Kind) ≥ ((gi o_.Rows i_102).Kind)))), (126, B (decide (((gi o_.Rows (IntKind.i64.wrap (i_102 - 1))).Kind) ≥ ((gi o_.Rows i_102).Kind)))), (127, B (decide (((gi o_.Rows (IntKind.i64.wrap (i_102 - 1))).Kind) ≥ ((gi o_.Rows i_102).Kind)))), (128, B (decide (((gi o_.Rows (IntKind.i64.wrap (i_102 - 1))).Kind) ≥ ((gi o_.Rows i_102).Kind))))], [(2, (24, [I o_.States, I o_.Kinds, I o_.Init, V (.slice a1 o_.Rows.length c1)])), (6, (102, [I ((gi o_.Rows i_102).State), I ((gi o_.Rows i_102).Kind), I ((gi o_.Rows i_102).Next), I ((gi o_.Rows i_102).Result)]))]⟩) (by as_aux_lemma => kernel_rfl) (by rfl) ?_
                        intro a hS
                        refine drawnDone (by kernel_rfl) ?_
                        clear hD hH
                        replace hS := hS.sel [1, 4, 94, 95, 96, 97, 98, 99, 100, 101, 102, 103, 104, 105, 106, 107, 108, 109, 110, 111, 112, 113, 114, 115, 116, 117, 118, 119, 120, 121, 122, 123, 124, 125, 126, 127, 128] [2, 6] (sy' := ⟨[(1, Pt 2 0), (4, I i_102), (94, Pt 2 3), (95, V (.slice a1 o_.Rows.length c1)), (96, I i_102), (97, I (IntKind.i64.wrap (i_102 - 1))), (98, V (.pointer (some A110))), (99, V (.pointer (some A112))), (100, I ((gi o_.Rows (IntKind.i64.wrap (i_102 - 1))).State)), (101, Pt 6 0), (102, I ((gi o_.Rows i_102).State)), (103, B (decide (((gi o_.Rows (IntKind.i64.wrap (i_102 - 1))).State) > ((gi o_.Rows i_102).State)))), (104, B false), (105, Pt 2 3), (106, V (.slice a1 o_.Rows.length c1)), (107, I i_102), (108, I (IntKind.i64.wrap (i_102 - 1))), (109, V (.pointer (some A115))), (110, V (.pointer (some A117))), (111, I ((gi o_.Rows (IntKind.i64.wrap (i_102 - 1))).State)), (112, Pt 6 0), (113, I ((gi o_.Rows i_102).State)), (114, B (((gi o_.Rows (IntKind.i64.wrap (i_102 - 1))).State) == ((gi o_.Rows i_102).State))), (115, B true), (116, Pt 2 3), (117, V (.slice a1 o_.Rows.length c1)), (118, I i_102), (119, I (IntKind.i64.wrap (i_102 - 1))), (120, V (.pointer (some A120))), (121, V (.pointer (some A122))), (122, I ((gi o_.Rows (IntKind.i64.wrap (i_102 - 1))).Kind)), (123, Pt 6 1), (124, I ((gi o_.Rows i_102).Kind)), (125, B (decide (((gi o_.Rows (IntKind.i64.wrap (i_102 - 1))).Kind) ≥ ((gi o_.Rows i_102).Kind)))), (126, B (decide (((gi o_.Rows (IntKind.i64.wrap (i_102 - 1))).Kind) ≥ ((gi o_.Rows i_102).Kind)))), (127, B (decide (((gi o_.Rows (IntKind.i64.wrap (i_102 - 1))).Kind) ≥ ((gi o_.Rows i_102).Kind)))), (128, B (decide (((gi o_.Rows (IntKind.i64.wrap (i_102 - 1))).Kind) ≥ ((gi o_.Rows i_102).Kind))))], [(2, (24, [I o_.States, I o_.Kinds, I o_.Init, V (.slice a1 o_.Rows.length c1)])), (6, (102, [I ((gi o_.Rows i_102).State), I ((gi o_.Rows i_102).Kind), I ((gi o_.Rows i_102).Next), I ((gi o_.Rows i_102).Result)]))]⟩) (by kernel_rfl)
                        exact ⟨ρ, _, decide (((gi o_.Rows (IntKind.i64.wrap (i_102 - 1))).Kind) ≥ ((gi o_.Rows i_102).Kind)), hm, hS.sel [1, 4, 128] [2] (by kernel_rfl), hO, h103⟩
                      · replace hS := hS.lit (t := 115) (by kernel_rfl) hb
                        replace hm := hm.2 hb
                        refine take T [25, 27, 32, 26, 28, 33, 29, 30, 31, 34, 35, 36, 37] [2, 6] [1, 4, 94, 95, 96, 97, 98, 99, 100, 101, 102, 103, 104, 105, 106, 107, 108, 109, 110, 111, 112, 113, 114, 115, 116, 117, 118, 119, 120, 121, 122, 123, 124, 125, 126, 127, 128] hS (by kernel_rfl) (by kernel_rfl) (by kernel_rfl) hH (listed' := #[true, true, true, true, true, true, true, true, true, true, true, true, true, true, true, true, true, true, true, true, true, true, true, true, true, true, true, true, true, true, true, true, true, true, true, true, true, true]) (fuel := 0) (sy' := ⟨[(1, Pt 2 0), (4, I i_102), (94, Pt 2 3), (95, V (.slice a1 o_.Rows.length c1)), (96, I i_102), (97, I (IntKind.i64.wrap (i_102 - 1))), (98, V (.pointer (some A110))), (99, V (.pointer (some A112))), (100, I ((gi o_.Rows (IntKind.i64.wrap (i_102 - 1))).State)), (101, Pt 6 0), (102, I ((gi o_.Rows i_102).State)), (103, B (decide (((gi o_.Rows (IntKind.i64.wrap (i_102 - 1))).State) > ((gi o_.Rows i_102).State)))), (104, B false), (105, Pt 2 3), (106, V (.slice a1 o_.Rows.length c1)), (107, I i_102), (108, I (IntKind.i64.wrap (i_102 - 1))), (109, V (.pointer (some A115))), (110, V (.pointer (some A117))), (111, I ((gi o_.Rows (IntKind.i64.wrap (i_102 - 1))).State)), (112, Pt 6 0), (113, I ((gi o_.Rows i_102).State)), (114, B (((gi o_.Rows (IntKind.i64.wrap (i_102 - 1))).State) == ((gi o_.Rows i_102).State))), (115, B false), (116, V undef), (117, V undef), (118, V undef), (119, V undef), (120, V undef), (121, V undef), (122, V undef), (123, V undef), (124, V undef), (125, V undef), (126, B false), (127, B false), (128, B false)], [(2, (24, [I o_.States, I o_.Kinds, I o_.Init, V (.slice a1 o_.Rows.length c1)])), (6, (102, [I ((gi o_.Rows i_102).State), I ((gi o_.Rows i_102).Kind), I ((gi o_.Rows i_102).Next), I ((gi o_.Rows i_102).Result)]))]⟩) (by as_aux_lemma => kernel_rfl) (by rfl) ?_
                        intro a hS
                        refine drawnDone (by kernel_rfl) ?_
                        clear hD hH
                        replace hS := hS.sel [1, 4, 94, 95, 96, 97, 98, 99, 100, 101, 102, 103, 104, 105, 106, 107, 108, 109, 110, 111, 112, 113, 114, 115, 126, 127, 128] [2, 6] (sy' := ⟨[(1, Pt 2 0), (4, I i_102), (94, Pt 2 3), (95, V (.slice a1 o_.Rows.length c1)), (96, I i_102), (97, I (IntKind.i64.wrap (i_102 - 1))), (98, V (.pointer (some A110))), (99, V (.pointer (some A112))), (100, I ((gi o_.Rows (IntKind.i64.wrap (i_102 - 1))).State)), (101, Pt 6 0), (102, I ((gi o_.Rows i_102).State)), (103, B (decide (((gi o_.Rows (IntKind.i64.wrap (i_102 - 1))).State) > ((gi o_.Rows i_102).State)))), (104, B false), (105, Pt 2 3), (106, V (.slice a1 o_.Rows.length c1)), (107, I i_102), (108, I (IntKind.i64.wrap (i_102 - 1))), (109, V (.pointer (some A115))), (110, V (.pointer (some A117))), (111, I ((gi o_.Rows (IntKind.i64.wrap (i_102 - 1))).State)), (112, Pt 6 0), (113, I ((gi o_.Rows i_102).State)), (114, B (((gi o_.Rows (IntKind.i64.wrap (i_102 - 1))).State) == ((gi o_.Rows i_102).State))), (115, B false), (126, B false), (127, B false), (128, B false)], [(2, (24, [I o_.States, I o_.Kinds, I o_.Init, V (.slice a1 o_.Rows.length c1)])), (6, (102, [I ((gi o_.Rows i_102).State), I ((gi o_.Rows i_102).Kind), I ((gi o_.Rows i_102).Next), I ((gi o_.Rows i_102).Result)]))]⟩) (by kernel_rfl)
                        exact ⟨ρ, _, false, hm, hS.sel [1, 4, 128] [2] (by kernel_rfl), hO, h103⟩
                  · replace hS := hS.lit (t := 93) (by kernel_rfl) hb
                    replace hm := hm.2 hb
                    refine take T [3, 5, 10, 4, 6, 11, 7, 8, 9, 12, 13, 14, 16, 21, 15, 17, 22, 18, 19, 20, 23, 24, 25, 27, 32, 26, 28, 33, 29, 30, 31, 34, 35, 36, 37] [2, 6] [1, 4, 94, 95, 96, 97, 98, 99, 100, 101, 102, 103, 104, 105, 106, 107, 108, 109, 110, 111, 112, 113, 114, 115, 116, 117, 118, 119, 120, 121, 122, 123, 124, 125, 126, 127, 128] hS (by kernel_rfl) (by kernel_rfl) (by kernel_rfl) hH (listed' := #[true, true, true, true, true, true, true, true, true, true, true, true, true, true, true, true, true, true, true, true, true, true, true, true, true, true, true, true, true, true, true, true, true, true, true, true, true, true]) (fuel := 0) (sy' := ⟨[(1, Pt 2 0), (4, I i_102), (94, V undef), (95, V undef), (96, V undef), (97, V undef), (98, V undef), (99, V undef), (100, V undef), (101, V undef), (102, V undef), (103, V undef), (104, V undef), (105, V undef), (106, V undef), (107, V undef), (108, V undef), (109, V undef), (110, V undef), (111, V undef), (112, V undef), (113, V undef), (114, V undef), (115, V undef), (116, V undef), (117, V undef), (118, V undef), (119, V undef), (120, V undef), (121, V undef), (122, V undef), (123, V undef), (124, V undef), (125, V undef), (126, V undef), (127, V undef), (128, B false)], [(2, (24, [I o_.States, I o_.Kinds, I o_.Init, V (.slice a1 o_.Rows.length c1)])), (6, (102, [I ((gi o_.Rows i_102).State), I ((gi o_.Rows i_102).Kind), I ((gi o_.Rows i_102).Next), I ((gi o_.Rows i_102).Result)]))]⟩) (by as_aux_lemma => kernel_rfl) (by rfl) ?_
                    intro a hS
                    refine drawnDone (by kernel_rfl) ?_
                    clear hD hH
                    replace hS := hS.sel [1, 4, 128] [2] (sy' := ⟨[(1, Pt 2 0), (4, I i_102), (128, B false)], [(2, (24, [I o_.States, I o_.Kinds, I o_.Init, V (.slice a1 o_.Rows.length c1)]))]⟩) (by kernel_rfl)
                    exact ⟨ρ, _, false, hm, hS.sel [1, 4, 128] [2] (by kernel_rfl), hO, h103⟩
                · rintro a w126 ⟨ρ, χ125, x_107, hm, hS, hO, h108⟩
                  unfold VC43_J2 at hm
                  refine wcond hS (b := x_107) (by kernel_rfl) (fun hb => ?_) (fun hb => ?_)
                  · replace hm := hm.1 hb
                    refine regP T hS (sp := []) (ks := [2, 3]) (bs := []) (sy' := ⟨[(2, I i_102), (3, I 32)], []⟩) (by kernel_rfl) ?_
                    intro a hS
                    refine wret ?_
                    exact fin T hS hO (fun c => c) rfl (r := [.int .i64 i_102, .int .i64 32]) (by kernel_rfl) (fun χ' hM hC => ⟨(i_102, 32), hm, rfl⟩)
                  · replace hm := hm.2 hb
                    refine wskip ?_
                    refine region (endP T hS (sp := []) (ks := [1, 4]) (bs := [2]) (sy' := ⟨[(1, Pt 2 0), (4, I (IntKind.i64.wrap (i_102 + 1)))], [(2, (24, [I o_.States, I o_.Kinds, I o_.Init, V (.slice a1 o_.Rows.length c1)]))]⟩) (by kernel_rfl) ?_)
                    intro a hS
                    exact ⟨IntKind.i64.wrap (i_102 + 1), ⟨ρ, _, hm.1, hS.sel [1, 4] [2] (by kernel_rfl), hO, h108⟩, hm.2⟩
        · replace hm := hm.2 hb
          refine wexit (by rfl) ?_
          exact ⟨ρ, _, hm, hS.sel [1] [2] (by kernel_rfl), hO, h103⟩
    · rintro a w132 ⟨ρ, χ131, hm, hS, hO, h101⟩
      unfold VC43_J1 at hm
      refine regP T hS (sp := []) (ks := [2, 3]) (bs := []) (sy' := ⟨[(2, I ((o_.Rows.length : Nat) : Int)), (3, I 0)], []⟩) (by kernel_rfl) ?_
      intro a hS
      refine wret ?_
      exact fin T hS hO (fun c => c) rfl (r := [.int .i64 ((o_.Rows.length : Nat) : Int), .int .i64 0]) (by kernel_rfl) (fun χ' hM hC => ⟨(((o_.Rows.length : Nat) : Int), 0), hm, rfl⟩)
theorem C43 (v : ∀ (o_ : Api_Object), VC43 o_ (fun r => r = ref23_Check o_)) : S43 := by
  intro w χ o_ a1 c1   h1
  refine (W43 w χ o_ a1 c1   _ (v o_) h1).mono ?_
  rintro _ _ _ _ ⟨r, rfl, h⟩
  exact h
def S47 : Prop := ∀ (w : World) (χ : Nat → Nat) (o_ : Api_Object) (state : Int) (kind : Int) (a1 : Option Addr) (c1 : Nat), RS tApi_Row w χ a1 o_.Rows c1 → Ret Try.prog 47 #[.agg #[.int .i64 o_.States, .int .i64 o_.Kinds, .int .i64 o_.Init, .slice a1 o_.Rows.length c1], .int .i64 state, .int .i64 kind] xnone w χ (fun w χ' v => v = .tuple #[.int .i64 ((ref23_Move o_ state kind).1), .int .i64 ((ref23_Move o_ state kind).2.1), .bool ((ref23_Move o_ state kind).2.2)])
theorem hb47 : hasBody Try.prog 47 = true := by kernel_rfl
/-- replevin/replevinref23.Move -/
theorem W47 (w0 : World) (χ0 : Nat → Nat) (o_ : Api_Object) (state : Int) (kind : Int) (a1 : Option Addr) (c1 : Nat) (Q : Int × Int × Bool → Prop) (hm : VC47 o_ state kind Q) (h1 : RS tApi_Row w0 χ0 a1 o_.Rows c1) :
    Ret Try.prog 47 #[.agg #[.int .i64 o_.States, .int .i64 o_.Kinds, .int .i64 o_.Init, .slice a1 o_.Rows.length c1], .int .i64 state, .int .i64 kind] xnone w0 χ0 (fun w χ' v => ∃ r, Q r ∧ v = .tuple #[.int .i64 r.1, .int .i64 r.2.1, .bool r.2.2]) := by
  unfold VC47 at hm
  replace hm := hm (h1.sm (by kernel_rfl))
  refine enter Try.func47 rfl (vals := [.agg #[.int .i64 o_.States, .int .i64 o_.Kinds, .int .i64 o_.Init, .slice a1 o_.Rows.length c1], .int .i64 state, .int .i64 kind]) (by kernel_rfl) ?_
  intro ρ a hS hO hM
  replace h1 := h1.m0 hM
  clear hM
  refine regM T hS (sp := []) (ks := [1, 2, 3]) (bs := [4]) (sy' := ⟨[(1, I state), (2, I kind), (3, Pt 4 0)], [(4, (24, [I o_.States, I o_.Kinds, I o_.Init, V (.slice a1 o_.Rows.length c1)]))]⟩) (by kernel_rfl) ?_
  intro ρ a w132 χ133 hS hE hr
  replace hO := hO.mv hE rfl rfl
  replace h1 := h1.mv hE rfl
  clear hE hr
  refine wcut (fun a w => ∃ (ρ : Nat → Nat) (χ : Nat → Nat), VC47_J1 Q ∧ St Try.f47.ntmps ⟨[], []⟩ ρ a w χ ∧ Old w0 χ0 w χ) ?_ ?_
  · refine regP T hS (sp := []) (ks := [1, 2, 3, 9]) (bs := [4]) (sy' := ⟨[(1, I state), (2, I kind), (3, Pt 4 0), (9, I 0)], [(4, (24, [I o_.States, I o_.Kinds, I o_.Init, V (.slice a1 o_.Rows.length c1)]))]⟩) (by kernel_rfl) ?_
    intro a hS
    refine wblock ?_
    obtain ⟨I1, μ1, hm0, hm⟩ := hm
    refine wloop (σ := Int) (fun s a w => ∃ (ρ : Nat → Nat) (χ : Nat → Nat), I1 s ∧ St Try.f47.ntmps ⟨[(1, I state), (2, I kind), (3, Pt 4 0), (9, I s)], [(4, (24, [I o_.States, I o_.Kinds, I o_.Init, V (.slice a1 o_.Rows.length c1)]))]⟩ ρ a w χ ∧ Old w0 χ0 w χ ∧ RS tApi_Row w χ a1 o_.Rows c1) (fun s => μ1 s) (0) ?_ ?_
    · exact ⟨ρ, _, hm0, hS.sel [1, 2, 3, 9] [4] (by kernel_rfl), hO, h1⟩
    · rintro i_101 a w129 ⟨ρ, χ128, hI, hS, hO, h102⟩
      replace hm := hm i_101 hI
      clear hI hm0
      refine wseq ?_
      refine regP T hS (sp := []) (ks := [1, 2, 3, 9, 14]) (bs := [4]) (sy' := ⟨[(1, I state), (2, I kind), (3, Pt 4 0), (9, I i_101), (14, B (decide (i_101 < ((o_.Rows.length : Nat) : Int))))], [(4, (24, [I o_.States, I o_.Kinds, I o_.Init, V (.slice a1 o_.Rows.length c1)]))]⟩) (by kernel_rfl) ?_
      intro a hS
      refine wcond hS (b := decide (i_101 < ((o_.Rows.length : Nat) : Int))) (by kernel_rfl) (fun hb => ?_) (fun hb => ?_)
      · replace hm := hm.1 hb
        refine wskip ?_
        refine wseq ?_
        refine wblock ?_
        refine wcut (fun a w => ∃ (ρ : Nat → Nat) (χ : Nat → Nat) (x_103 : Bool), VC47_J2 o_ Q I1 μ1 i_101 x_103 ∧ St Try.f47.ntmps ⟨[(1, I state), (2, I kind), (3, Pt 4 0), (9, I i_101), (34, B x_103)], [(4, (24, [I o_.States, I o_.Kinds, I o_.Init, V (.slice a1 o_.Rows.length c1)]))]⟩ ρ a w χ ∧ Old w0 χ0 w χ ∧ RS tApi_Row w χ a1 o_.Rows c1) ?_ ?_
        · refine region ?_
          refine opsP T hS 3 (sp := []) (ks := [1, 2, 3, 9, 18, 19]) (bs := [4]) (sy' := ⟨[(1, I state), (2, I kind), (3, Pt 4 0), (9, I i_101), (18, V (.slice a1 o_.Rows.length c1)), (19, I i_101)], [(4, (24, [I o_.States, I o_.Kinds, I o_.Init, V (.slice a1 o_.Rows.length c1)]))]⟩) (by kernel_rfl) ?_
          intro a hS
          obtain ⟨hq, hm⟩ := hm
          refine op1 (index (e := 102) (k := .i64) T hS (by kernel_rfl) (by kernel_rfl) (by kernel_rfl) (by kernel_rfl) h102 (by kernel_rfl) (by kernel_rfl) hq.1 hq.2 ?_)
          intro A116 a h117 hS
          clear hq
          refine op1 (fieldA (off := 0) (fsz := 1) (ft := 3) (TF := tI) (y := (gi o_.Rows i_101).State) T hS (by kernel_rfl) (by kernel_rfl) (by kernel_rfl) h117 (by kernel_rfl) (by kernel_rfl) (by kernel_rfl) (fun cs h => Api_Row_f0 h) ?_)
          intro A118 a h119 hS
          refine op1 (load1 T hS (by kernel_rfl) (by kernel_rfl) (by kernel_rfl) h119 rfl (by kernel_rfl) ?_)
          intro v120 a hv hS
          cases hv
          refine opsP T hS 3 (sp := []) (ks := [1, 2, 3, 9, 25]) (bs := [4]) (sy' := ⟨[(1, I state), (2, I kind), (3, Pt 4 0), (9, I i_101), (25, B (((gi o_.Rows i_101).State) == state))], [(4, (24, [I o_.States, I o_.Kinds, I o_.Init, V (.slice a1 o_.Rows.length c1)]))]⟩) (by kernel_rfl) ?_
          intro a hS
          rcases Bool.eq_false_or_eq_true (((gi o_.Rows i_101).State) == state) with hb | hb
          · replace hS := hS.lit (t := 25) (by kernel_rfl) hb
            replace hm := hm.1 hb
            refine opsP T hS 3 (sp := []) (ks := [1, 2, 3, 9, 25, 26, 27, 28]) (bs := [4]) (sy' := ⟨[(1, I state), (2, I kind), (3, Pt 4 0), (9, I i_101), (25, B true), (26, Pt 4 3), (27, V (.slice a1 o_.Rows.length c1)), (28, I i_101)], [(4, (24, [I o_.States, I o_.Kinds, I o_.Init, V (.slice a1 o_.Rows.length c1)]))]⟩) (by kernel_rfl) ?_
            intro a hS
            obtain ⟨hq, hm⟩ := hm
            refine op1 (index (e := 102) (k := .i64) T hS (by kernel_rfl) (by kernel_rfl) (by kernel_rfl) (by kernel_rfl) h102 (by kernel_rfl) (by kernel_rfl) hq.1 hq.2 ?_)
            intro A121 a h122 hS
            clear hq
            refine op1 (fieldA (off := 1) (fsz := 1) (ft := 3) (TF := tI) (y := (gi o_.Rows i_101).Kind) T hS (by kernel_rfl) (by kernel_rfl) (by kernel_rfl) h122 (by kernel_rfl) (by kernel_rfl) (by kernel_rfl) (fun cs h => Api_Row_f1 h) ?_)
            intro A123 a h124 hS
            refine op1 (load1 T hS (by kernel_rfl) (by kernel_rfl) (by kernel_rfl) h124 rfl (by kernel_rfl) ?_)
            intro v125 a hv hS
            cases hv
            refine endP T hS (sp := []) (ks := [1, 2, 3, 9, 26, 27, 28, 29, 30, 31, 32, 33, 34]) (bs := [4]) (sy' := ⟨[(1, I state), (2, I kind), (3, Pt 4 0), (9, I i_101), (26, Pt 4 3), (27, V (.slice a1 o_.Rows.length c1)), (28, I i_101), (29, V (.pointer (some A121))), (30, V (.pointer (some A123))), (31, I ((gi o_.Rows i_101).Kind)), (32, I kind), (33, B (((gi o_.Rows i_101).Kind) == kind)), (34, B (((gi o_.Rows i_101).Kind) == kind))], [(4, (24, [I o_.States, I o_.Kinds, I o_.Init, V (.slice a1 o_.Rows.length c1)]))]⟩) (by kernel_rfl) ?_
            intro a hS
            exact ⟨ρ, _, (((gi o_.Rows i_101).Kind) == kind), hm, hS.sel [1, 2, 3, 9, 34] [4] (by kernel_rfl), hO, h102⟩
          · replace hS := hS.lit (t := 25) (by kernel_rfl) hb
            replace hm := hm.2 hb
            refine endP T hS (sp := []) (ks := [1, 2, 3, 9, 34]) (bs := [4]) (sy' := ⟨[(1, I state), (2, I kind), (3, Pt 4 0), (9, I i_101), (34, B false)], [(4, (24, [I o_.States, I o_.Kinds, I o_.Init, V (.slice a1 o_.Rows.length c1)]))]⟩) (by kernel_rfl) ?_
            intro a hS
            exact ⟨ρ, _, false, hm, hS.sel [1, 2, 3, 9, 34] [4] (by kernel_rfl), hO, h102⟩
        · rintro a w127 ⟨ρ, χ126, x_103, hm, hS, hO, h104⟩
          unfold VC47_J2 at hm
          refine wcond hS (b := x_103) (by kernel_rfl) (fun hb => ?_) (fun hb => ?_)
          · replace hm := hm.1 hb
            refine drawnS [4] mixed hS ?_
            intro w105 hS hE hD hH
            replace hO := hO.mv hE rfl rfl
            replace h104 := h104.mv hE rfl
            clear hE
            refine take T [0, 2, 6, 8, 1, 7] [4] [36, 37, 42, 43] hS (by kernel_rfl) (by kernel_rfl) (by kernel_rfl) hH (listed' := #[true, true, true, false, false, false, true, true, true, false, false, false, false, false, false]) (fuel := 9) (sy' := ⟨[(36, V (.slice a1 o_.Rows.length c1)), (37, I i_101), (42, V (.slice a1 o_.Rows.length c1)), (43, I i_101)], [(4, (24, [I o_.States, I o_.Kinds, I o_.Init, V (.slice a1 o_.Rows.length c1)]))]⟩) (by kernel_rfl) (by rfl) ?_
            intro a hS
            obtain ⟨hq, hm⟩ := hm
            refine dindex (e := 102) (k := .i64) T 3 hS (by kernel_rfl) (by kernel_rfl) (by kernel_rfl) (by rfl) (by kernel_rfl) hH (by kernel_rfl) (by kernel_rfl) h104 (by kernel_rfl) (by kernel_rfl) hq.1 hq.2 ?_
            intro A106 a h107 hS
            clear hq
            have h107b := h107.here
            refine dfieldA (off := 2) (fsz := 1) (ft := 3) (TF := tI) (y := (gi o_.Rows i_101).Next) 4 T hS (by kernel_rfl) (by kernel_rfl) (by kernel_rfl) (by rfl) (by kernel_rfl) hH (by kernel_rfl) h107 (by kernel_rfl) (by kernel_rfl) (by kernel_rfl) (fun cs h => Api_Row_f2 h) ?_
            intro A108 a h109 hbl hS
            have h109b := h107b
            rw [← hbl] at h109b
            clear hbl
            refine dload1 T 5 hS (by kernel_rfl) (by kernel_rfl) (by kernel_rfl) (by rfl) (by kernel_rfl) hH (by kernel_rfl) h109 h109b rfl (by kernel_rfl) ?_
            intro v110 a hv hS
            cases hv
            refine take T [12] [4] [6, 42, 43] hS (by kernel_rfl) (by kernel_rfl) (by kernel_rfl) hH (listed' := #[true, true, true, true, true, true, true, true, true, false, false, false, true, false, false]) (fuel := 5) (sy' := ⟨[(6, I ((gi o_.Rows i_101).Next)), (42, V (.slice a1 o_.Rows.length c1)), (43, I i_101)], [(4, (24, [I o_.States, I o_.Kinds, I o_.Init, V (.slice a1 o_.Rows.length c1)]))]⟩) (by kernel_rfl) (by rfl) ?_
            intro a hS
            obtain ⟨hq, hm⟩ := hm
            refine dindex (e := 102) (k := .i64) T 9 hS (by kernel_rfl) (by kernel_rfl) (by kernel_rfl) (by rfl) (by kernel_rfl) hH (by kernel_rfl) (by kernel_rfl) h104 (by kernel_rfl) (by kernel_rfl) hq.1 hq.2 ?_
            intro A111 a h112 hS
            clear hq
            have h112b := h112.here
            refine dfieldA (off := 3) (fsz := 1) (ft := 3) (TF := tI) (y := (gi o_.Rows i_101).Result) 10 T hS (by kernel_rfl) (by kernel_rfl) (by kernel_rfl) (by rfl) (by kernel_rfl) hH (by kernel_rfl) h112 (by kernel_rfl) (by kernel_rfl) (by kernel_rfl) (fun cs h => Api_Row_f3 h) ?_
            intro A113 a h114 hbl hS
            have h114b := h112b
            rw [← hbl] at h114b
            clear hbl
            refine dload1 T 11 hS (by kernel_rfl) (by kernel_rfl) (by kernel_rfl) (by rfl) (by kernel_rfl) hH (by kernel_rfl) h114 h114b rfl (by kernel_rfl) ?_
            intro v115 a hv hS
            cases hv
            refine take T [13, 14] [4] [6, 7, 8] hS (by kernel_rfl) (by kernel_rfl) (by kernel_rfl) hH (listed' := #[true, true, true, true, true, true, true, true, true, true, true, true, true, true, true]) (fuel := 0) (sy' := ⟨[(6, I ((gi o_.Rows i_101).Next)), (7, I ((gi o_.Rows i_101).Result)), (8, B true)], [(4, (24, [I o_.States, I o_.Kinds, I o_.Init, V (.slice a1 o_.Rows.length c1)]))]⟩) (by kernel_rfl) (by rfl) ?_
            intro a hS
            refine drawnDone (by kernel_rfl) ?_
            clear hD hH
            replace hS := hS.sel [6, 7, 8] [] (sy' := ⟨[(6, I ((gi o_.Rows i_101).Next)), (7, I ((gi o_.Rows i_101).Result)), (8, B true)], []⟩) (by kernel_rfl)
            refine wret ?_
            exact fin T hS hO (fun c => c) rfl (r := [.int .i64 ((gi o_.Rows i_101).Next), .int .i64 ((gi o_.Rows i_101).Result), .bool true]) (by kernel_rfl) (fun χ' hM hC => ⟨((gi o_.Rows i_101).Next, (gi o_.Rows i_101).Result, true), hm, rfl⟩)
          · replace hm := hm.2 hb
            refine wskip ?_
            refine region (endP T hS (sp := []) (ks := [1, 2, 3, 9]) (bs := [4]) (sy' := ⟨[(1, I state), (2, I kind), (3, Pt 4 0), (9, I (IntKind.i64.wrap (i_101 + 1)))], [(4, (24, [I o_.States, I o_.Kinds, I o_.Init, V (.slice a1 o_.Rows.length c1)]))]⟩) (by kernel_rfl) ?_)
            intro a hS
            exact ⟨IntKind.i64.wrap (i_101 + 1), ⟨ρ, _, hm.1, hS.sel [1, 2, 3, 9] [4] (by kernel_rfl), hO, h104⟩, hm.2⟩
      · replace hm := hm.2 hb
        refine wexit (by rfl) ?_
        exact ⟨ρ, _, hm, hS.sel [] [] (by kernel_rfl), hO⟩
  · rintro a w131 ⟨ρ, χ130, hm, hS, hO⟩
    unfold VC47_J1 at hm
    refine regP T hS (sp := []) (ks := [6, 7, 8]) (bs := []) (sy' := ⟨[(6, I 0), (7, I 0), (8, B false)], []⟩) (by kernel_rfl) ?_
    intro a hS
    refine wret ?_
    exact fin T hS hO (fun c => c) rfl (r := [.int .i64 0, .int .i64 0, .bool false]) (by kernel_rfl) (fun χ' hM hC => ⟨(0, 0, false), hm, rfl⟩)
theorem C47 (v : ∀ (o_ : Api_Object) (state : Int) (kind : Int), VC47 o_ state kind (fun r => r = ref23_Move o_ state kind)) : S47 := by
  intro w χ o_ state kind a1 c1   h1
  refine (W47 w χ o_ state kind a1 c1   _ (v o_ state kind) h1).mono ?_
  rintro _ _ _ _ ⟨r, rfl, h⟩
  exact h
def S18 : Prop := ∀ (w : World) (χ : Nat → Nat) (o_ : Api_Object) (state : Int) (kind : Int) (result : Int) (a1 : Option Addr) (c1 : Nat), RS tApi_Row w χ a1 o_.Rows c1 → Ret Try.prog 18 #[.agg #[.int .i64 o_.States, .int .i64 o_.Kinds, .int .i64 o_.Init, .slice a1 o_.Rows.length c1], .int .i64 state, .int .i64 kind, .int .i64 result] xnone w χ (fun w χ' v => v = .tuple #[.int .i64 ((ref28_Step o_ state kind result).1), .int .i64 ((ref28_Step o_ state kind result).2)])
theorem hb18 : hasBody Try.prog 18 = true := by kernel_rfl
/-- replevin/replevinref28.Step -/
theorem W18 (k47 : S47) (w0 : World) (χ0 : Nat → Nat) (o_ : Api_Object) (state : Int) (kind : Int) (result : Int) (a1 : Option Addr) (c1 : Nat) (Q : Int × Int → Prop) (hm : VC18 o_ state kind result Q) (h1 : RS tApi_Row w0 χ0 a1 o_.Rows c1) :
    Ret Try.prog 18 #[.agg #[.int .i64 o_.States, .int .i64 o_.Kinds, .int .i64 o_.Init, .slice a1 o_.Rows.length c1], .int .i64 state, .int .i64 kind, .int .i64 result] xnone w0 χ0 (fun w χ' v => ∃ r, Q r ∧ v = .tuple #[.int .i64 r.1, .int .i64 r.2]) := by
  unfold VC18 at hm
  replace hm := hm (h1.sm (by kernel_rfl))
  refine enter Try.func18 rfl (vals := [.agg #[.int .i64 o_.States, .int .i64 o_.Kinds, .int .i64 o_.Init, .slice a1 o_.Rows.length c1], .int .i64 state, .int .i64 kind, .int .i64 result]) (by kernel_rfl) ?_
  intro ρ a hS hO hM
  replace h1 := h1.m0 hM
  clear hM
  refine regM T hS (sp := []) (ks := [1, 2, 3, 4]) (bs := [5]) (sy' := ⟨[(1, I state), (2, I kind), (3, I result), (4, Pt 5 0)], [(5, (24, [I o_.States, I o_.Kinds, I o_.Init, V (.slice a1 o_.Rows.length c1)]))]⟩) (by kernel_rfl) ?_
  intro ρ a w105 χ106 hS hE hr
  replace hO := hO.mv hE rfl rfl
  replace h1 := h1.mv hE rfl
  clear hE hr
  refine wseq ?_
  refine regP T hS (sp := [15]) (ks := [1, 2, 3, 4, 20]) (bs := [5]) (sy' := ⟨[(1, I state), (2, I kind), (3, I result), (4, Pt 5 0), (20, B ((decide (state < 0)) || (decide (state ≥ o_.States))))], [(5, (24, [I o_.States, I o_.Kinds, I o_.Init, V (.slice a1 o_.Rows.length c1)]))]⟩) (by kernel_rfl) ?_
  intro a hS
  refine wcond hS (b := ((decide (state < 0)) || (decide (state ≥ o_.States)))) (by kernel_rfl) (fun hb => ?_) (fun hb => ?_)
  · replace hm := hm.1 hb
    refine regP T hS (sp := []) (ks := [8, 9]) (bs := []) (sy' := ⟨[(8, I 0), (9, I 30)], []⟩) (by kernel_rfl) ?_
    intro a hS
    refine wret ?_
    exact fin T hS hO (fun c => c) rfl (r := [.int .i64 0, .int .i64 30]) (by kernel_rfl) (fun χ' hM hC => ⟨(0, 30), hm, rfl⟩)
  · replace hm := hm.2 hb
    refine wskip ?_
    refine regO ?_
    refine opsP T hS 3 (sp := []) (ks := [3, 22, 23, 24]) (bs := []) (sy' := ⟨[(3, I result), (22, V (.agg #[.int .i64 o_.States, .int .i64 o_.Kinds, .int .i64 o_.Init, .slice a1 o_.Rows.length c1])), (23, I state), (24, I kind)], []⟩) (by kernel_rfl) ?_
    intro a hS
    refine op1 (call hS (by kernel_rfl) (by kernel_rfl) hb47 (by kernel_rfl) (fun _ _ => rfl) (k47 _ _ o_ state kind a1 c1 h1) ?_)
    intro v101 a w102 χ103 hE hp hS
    replace hO := hO.mv hE rfl rfl
    replace h1 := h1.mv hE rfl
    clear hE
    obtain ⟨r104, hr⟩ : ∃ r, ref23_Move o_ state kind = r := ⟨_, rfl⟩
    replace hm := hm r104 hr
    rw [hr] at hp
    clear hr
    subst hp
    refine endP T hS (sp := []) (ks := [3, 10, 11, 12]) (bs := []) (sy' := ⟨[(3, I result), (10, I r104.1), (11, I r104.2.1), (12, B r104.2.2)], []⟩) (by kernel_rfl) ?_
    intro a hS
    refine wseq ?_
    refine regP T hS (sp := [31]) (ks := [10, 35]) (bs := []) (sy' := ⟨[(10, I r104.1), (35, B ((!r104.2.2) || (r104.2.1 != result)))], []⟩) (by kernel_rfl) ?_
    intro a hS
    refine wcond hS (b := ((!r104.2.2) || (r104.2.1 != result))) (by kernel_rfl) (fun hb => ?_) (fun hb => ?_)
    · replace hm := hm.1 hb
      refine regP T hS (sp := []) (ks := [8, 9]) (bs := []) (sy' := ⟨[(8, I 0), (9, I 40)], []⟩) (by kernel_rfl) ?_
      intro a hS
      refine wret ?_
      exact fin T hS hO (fun c => c) rfl (r := [.int .i64 0, .int .i64 40]) (by kernel_rfl) (fun χ' hM hC => ⟨(0, 40), hm, rfl⟩)
    · replace hm := hm.2 hb
      refine wskip ?_
      refine regP T hS (sp := []) (ks := [8, 9]) (bs := []) (sy' := ⟨[(8, I r104.1), (9, I 0)], []⟩) (by kernel_rfl) ?_
      intro a hS
      refine wret ?_
      exact fin T hS hO (fun c => c) rfl (r := [.int .i64 r104.1, .int .i64 0]) (by kernel_rfl) (fun χ' hM hC => ⟨(r104.1, 0), hm, rfl⟩)
theorem C18 (k47 : S47) (v : ∀ (o_ : Api_Object) (state : Int) (kind : Int) (result : Int), VC18 o_ state kind result (fun r => r = ref28_Step o_ state kind result)) : S18 := by
  intro w χ o_ state kind result a1 c1   h1
  refine (W18 k47 w χ o_ state kind result a1 c1   _ (v o_ state kind result) h1).mono ?_
  rintro _ _ _ _ ⟨r, rfl, h⟩
  exact h
def S15 : Prop := ∀ (w : World) (χ : Nat → Nat) (o_ : Api_Object) (l_ : List Api_Oper) (state : Int) (picks : List Api_Pick) (a1 : Option Addr) (c1 : Nat) (a2 : Option Addr) (c2 : Nat) (a3 : Option Addr) (c3 : Nat), RS tApi_Row w χ a1 o_.Rows c1 → RS tApi_Oper w χ a2 l_ c2 → RS tApi_Pick w χ a3 picks c3 → Ret Try.prog 15 #[.agg #[.int .i64 o_.States, .int .i64 o_.Kinds, .int .i64 o_.Init, .slice a1 o_.Rows.length c1], .slice a2 l_.length c2, .int .i64 state, .slice a3 picks.length c3] xnone w χ (fun w χ' v => v = .tuple #[.int .i64 ((ref28_From o_ l_ state picks).1), .int .i64 ((ref28_From o_ l_ state picks).2.1), .int .i64 ((ref28_From o_ l_ state picks).2.2)])
theorem hb15 : hasBody Try.prog 15 = true := by kernel_rfl
/-- replevin/replevinref28.From -/
theorem W15 (k18 : S18) (k43 : S43) (w0 : World) (χ0 : Nat → Nat) (o_ : Api_Object) (l_ : List Api_Oper) (state : Int) (picks : List Api_Pick) (a1 : Option Addr) (c1 : Nat) (a2 : Option Addr) (c2 : Nat) (a3 : Option Addr) (c3 : Nat) (Q : Int × Int × Int → Prop) (hm : VC15 o_ l_ state picks Q) (h1 : RS tApi_Row w0 χ0 a1 o_.Rows c1) (h2 : RS tApi_Oper w0 χ0 a2 l_ c2) (h3 : RS tApi_Pick w0 χ0 a3 picks c3) :
    Ret Try.prog 15 #[.agg #[.int .i64 o_.States, .int .i64 o_.Kinds, .int .i64 o_.Init, .slice a1 o_.Rows.length c1], .slice a2 l_.length c2, .int .i64 state, .slice a3 picks.length c3] xnone w0 χ0 (fun w χ' v => ∃ r, Q r ∧ v = .tuple #[.int .i64 r.1, .int .i64 r.2.1, .int .i64 r.2.2]) := by
  unfold VC15 at hm
  replace hm := hm (h1.sm (by kernel_rfl))
  replace hm := hm (h2.sm (by kernel_rfl))
  replace hm := hm (h3.sm (by kernel_rfl))
  refine enter Try.func15 rfl (vals := [.agg #[.int .i64 o_.States, .int .i64 o_.Kinds, .int .i64 o_.Init, .slice a1 o_.Rows.length c1], .slice a2 l_.length c2, .int .i64 state, .slice a3 picks.length c3]) (by kernel_rfl) ?_
  intro ρ a hS hO hM
  replace h1 := h1.m0 hM
  replace h2 := h2.m0 hM
  replace h3 := h3.m0 hM
  clear hM
  refine regM T hS (sp := []) (ks := [1, 2, 3, 4]) (bs := [5]) (sy' := ⟨[(1, V (.slice a2 l_.length c2)), (2, I state), (3, V (.slice a3 picks.length c3)), (4, Pt 5 0)], [(5, (24, [I o_.States, I o_.Kinds, I o_.Init, V (.slice a1 o_.Rows.length c1)]))]⟩) (by kernel_rfl) ?_
  intro ρ a w165 χ166 hS hE hr
  replace hO := hO.mv hE rfl rfl
  replace h1 := h1.mv hE rfl
  replace h2 := h2.mv hE rfl
  replace h3 := h3.mv hE rfl
  clear hE hr
  refine regO ?_
  refine opsP T hS 1 (sp := []) (ks := [1, 2, 3, 4, 19]) (bs := [5]) (sy' := ⟨[(1, V (.slice a2 l_.length c2)), (2, I state), (3, V (.slice a3 picks.length c3)), (4, Pt 5 0), (19, V (.agg #[.int .i64 o_.States, .int .i64 o_.Kinds, .int .i64 o_.Init, .slice a1 o_.Rows.length c1]))], [(5, (24, [I o_.States, I o_.Kinds, I o_.Init, V (.slice a1 o_.Rows.length c1)]))]⟩) (by kernel_rfl) ?_
  intro a hS
  refine op1 (call hS (by kernel_rfl) (by kernel_rfl) hb43 (by kernel_rfl) (fun _ _ => rfl) (k43 _ _ o_ a1 c1 h1) ?_)
  intro v101 a w102 χ103 hE hp hS
  replace hO := hO.mv hE rfl rfl
  replace h1 := h1.mv hE rfl
  replace h2 := h2.mv hE rfl
  replace h3 := h3.mv hE rfl
  clear hE
  obtain ⟨r104, hr⟩ : ∃ r, ref23_Check o_ = r := ⟨_, rfl⟩
  replace hm := hm r104 hr
  rw [hr] at hp
  clear hr
  subst hp
  refine endP T hS (sp := []) (ks := [1, 2, 3, 4, 12]) (bs := [5]) (sy' := ⟨[(1, V (.slice a2 l_.length c2)), (2, I state), (3, V (.slice a3 picks.length c3)), (4, Pt 5 0), (12, I r104.2)], [(5, (24, [I o_.States, I o_.Kinds, I o_.Init, V (.slice a1 o_.Rows.length c1)]))]⟩) (by kernel_rfl) ?_
  intro a hS
  refine wseq ?_
  refine regP T hS (sp := []) (ks := [1, 2, 3, 4, 24]) (bs := [5]) (sy' := ⟨[(1, V (.slice a2 l_.length c2)), (2, I state), (3, V (.slice a3 picks.length c3)), (4, Pt 5 0), (24, B (r104.2 != 0))], [(5, (24, [I o_.States, I o_.Kinds, I o_.Init, V (.slice a1 o_.Rows.length c1)]))]⟩) (by kernel_rfl) ?_
  intro a hS
  refine wcond hS (b := (r104.2 != 0)) (by kernel_rfl) (fun hb => ?_) (fun hb => ?_)
  · replace hm := hm.1 hb
    refine regP T hS (sp := []) (ks := [8, 9, 10]) (bs := []) (sy' := ⟨[(8, I 0), (9, I (-1)), (10, I 2)], []⟩) (by kernel_rfl) ?_
    intro a hS
    refine wret ?_
    exact fin T hS hO (fun c => c) rfl (r := [.int .i64 0, .int .i64 (-1), .int .i64 2]) (by kernel_rfl) (fun χ' hM hC => ⟨(0, (-1), 2), hm, rfl⟩)
  · replace hm := hm.2 hb
    refine wskip ?_
    refine wseq ?_
    refine regP T hS (sp := [27]) (ks := [1, 2, 3, 4, 32]) (bs := [5]) (sy' := ⟨[(1, V (.slice a2 l_.length c2)), (2, I state), (3, V (.slice a3 picks.length c3)), (4, Pt 5 0), (32, B ((decide (state < 0)) || (decide (state ≥ o_.States))))], [(5, (24, [I o_.States, I o_.Kinds, I o_.Init, V (.slice a1 o_.Rows.length c1)]))]⟩) (by kernel_rfl) ?_
    intro a hS
    refine wcond hS (b := ((decide (state < 0)) || (decide (state ≥ o_.States)))) (by kernel_rfl) (fun hb => ?_) (fun hb => ?_)
    · replace hm := hm.1 hb
      refine regP T hS (sp := []) (ks := [8, 9, 10]) (bs := []) (sy' := ⟨[(8, I 0), (9, I (-1)), (10, I 30)], []⟩) (by kernel_rfl) ?_
      intro a hS
      refine wret ?_
      exact fin T hS hO (fun c => c) rfl (r := [.int .i64 0, .int .i64 (-1), .int .i64 30]) (by kernel_rfl) (fun χ' hM hC => ⟨(0, (-1), 30), hm, rfl⟩)
    · replace hm := hm.2 hb
      refine wskip ?_
      refine wcut (fun a w => ∃ (ρ : Nat → Nat) (χ : Nat → Nat) (state_105 : Int), VC15_J1 picks Q state_105 ∧ St Try.f15.ntmps ⟨[(2, I state_105), (3, V (.slice a3 picks.length c3))], []⟩ ρ a w χ ∧ Old w0 χ0 w χ ∧ RS tApi_Pick w χ a3 picks c3) ?_ ?_
      · refine regP T hS (sp := []) (ks := [1, 2, 3, 4, 13]) (bs := [5]) (sy' := ⟨[(1, V (.slice a2 l_.length c2)), (2, I state), (3, V (.slice a3 picks.length c3)), (4, Pt 5 0), (13, I 0)], [(5, (24, [I o_.States, I o_.Kinds, I o_.Init, V (.slice a1 o_.Rows.length c1)]))]⟩) (by kernel_rfl) ?_
        intro a hS
        refine wblock ?_
        obtain ⟨I1, μ1, hm0, hm⟩ := hm
        refine wloop (σ := Int × Int) (fun s a w => ∃ (ρ : Nat → Nat) (χ : Nat → Nat), I1 s.1 s.2 ∧ St Try.f15.ntmps ⟨[(1, V (.slice a2 l_.length c2)), (2, I s.1), (3, V (.slice a3 picks.length c3)), (4, Pt 5 0), (13, I s.2)], [(5, (24, [I o_.States, I o_.Kinds, I o_.Init, V (.slice a1 o_.Rows.length c1)]))]⟩ ρ a w χ ∧ Old w0 χ0 w χ ∧ RS tApi_Oper w χ a2 l_ c2 ∧ RS tApi_Pick w χ a3 picks c3 ∧ RS tApi_Row w χ a1 o_.Rows c1) (fun s => μ1 s.1 s.2) (⟨state, 0⟩) ?_ ?_
        · exact ⟨ρ, _, hm0, hS.sel [1, 2, 3, 4, 13] [5] (by kernel_rfl), hO, h2, h3, h1⟩
        · rintro ⟨state_108, i_110⟩ a w162 ⟨ρ, χ161, hI, hS, hO, h107, h109, h111⟩
          replace hm := hm state_108 i_110 hI
          clear hI hm0
          refine wseq ?_
          refine regP T hS (sp := []) (ks := [1, 2, 3, 4, 13, 36]) (bs := [5]) (sy' := ⟨[(1, V (.slice a2 l_.length c2)), (2, I state_108), (3, V (.slice a3 picks.length c3)), (4, Pt 5 0), (13, I i_110), (36, B (decide (i_110 < ((picks.length : Nat) : Int))))], [(5, (24, [I o_.States, I o_.Kinds, I o_.Init, V (.slice a1 o_.Rows.length c1)]))]⟩) (by kernel_rfl) ?_
          intro a hS
          refine wcond hS (b := decide (i_110 < ((picks.length : Nat) : Int))) (by kernel_rfl) (fun hb => ?_) (fun hb => ?_)
          · replace hm := hm.1 hb
            refine wskip ?_
            refine wseq ?_
            refine wblock ?_
            refine regO ?_
            refine opsP T hS 2 (sp := []) (ks := [1, 2, 3, 4, 13, 39, 40]) (bs := [5]) (sy' := ⟨[(1, V (.slice a2 l_.length c2)), (2, I state_108), (3, V (.slice a3 picks.length c3)), (4, Pt 5 0), (13, I i_110), (39, V (.slice a3 picks.length c3)), (40, I i_110)], [(5, (24, [I o_.States, I o_.Kinds, I o_.Init, V (.slice a1 o_.Rows.length c1)]))]⟩) (by kernel_rfl) ?_
            intro a hS
            obtain ⟨hq, hm⟩ := hm
            refine op1 (index (e := 52) (k := .i64) T hS (by kernel_rfl) (by kernel_rfl) (by kernel_rfl) (by kernel_rfl) h109 (by kernel_rfl) (by kernel_rfl) hq.1 hq.2 ?_)
            intro A112 a h113 hS
            clear hq
            refine op1 (loadA T hS (by kernel_rfl) (by kernel_rfl) (by kernel_rfl) h113 (by kernel_rfl) (by kernel_rfl) ?_)
            intro v114 a hv hS
            subst hv
            refine endM T hS (sp := []) (ks := [1, 2, 3, 4, 13, 14]) (bs := [5, 15]) (sy' := ⟨[(1, V (.slice a2 l_.length c2)), (2, I state_108), (3, V (.slice a3 picks.length c3)), (4, Pt 5 0), (13, I i_110), (14, Pt 15 0)], [(5, (24, [I o_.States, I o_.Kinds, I o_.Init, V (.slice a1 o_.Rows.length c1)])), (15, (52, [I ((gi picks i_110).Oper), I ((gi picks i_110).Result)]))]⟩) (by kernel_rfl) ?_
            intro ρ a w159 χ160 hS hE hr
            replace hO := hO.mv hE rfl rfl
            replace h107 := h107.mv hE rfl
            replace h109 := h109.mv hE rfl
            replace h111 := h111.mv hE rfl
            clear hE hr
            refine wseq ?_
            refine regP T hS (sp := [46]) (ks := [1, 2, 3, 4, 13, 14, 52]) (bs := [5, 15]) (sy' := ⟨[(1, V (.slice a2 l_.length c2)), (2, I state_108), (3, V (.slice a3 picks.length c3)), (4, Pt 5 0), (13, I i_110), (14, Pt 15 0), (52, B ((decide (((gi picks i_110).Oper) < 0)) || (decide (((gi picks i_110).Oper) ≥ ((l_.length : Nat) : Int)))))], [(5, (24, [I o_.States, I o_.Kinds, I o_.Init, V (.slice a1 o_.Rows.length c1)])), (15, (52, [I ((gi picks i_110).Oper), I ((gi picks i_110).Result)]))]⟩) (by kernel_rfl) ?_
            intro a hS
            refine wcond hS (b := ((decide (((gi picks i_110).Oper) < 0)) || (decide (((gi picks i_110).Oper) ≥ ((l_.length : Nat) : Int))))) (by kernel_rfl) (fun hb => ?_) (fun hb => ?_)
            · replace hm := hm.1 hb
              refine regP T hS (sp := []) (ks := [8, 9, 10]) (bs := []) (sy' := ⟨[(8, I 0), (9, I i_110), (10, I 2)], []⟩) (by kernel_rfl) ?_
              intro a hS
              refine wret ?_
              exact fin T hS hO (fun c => c) rfl (r := [.int .i64 0, .int .i64 i_110, .int .i64 2]) (by kernel_rfl) (fun χ' hM hC => ⟨(0, i_110, 2), hm, rfl⟩)
            · replace hm := hm.2 hb
              refine wskip ?_
              refine wcut (fun a w => ∃ (ρ : Nat → Nat) (χ : Nat → Nat), VC15_J2 o_ l_ picks Q I1 μ1 state_108 i_110 ∧ St Try.f15.ntmps ⟨[(1, V (.slice a2 l_.length c2)), (2, I state_108), (3, V (.slice a3 picks.length c3)), (4, Pt 5 0), (13, I i_110), (14, Pt 15 0)], [(5, (24, [I o_.States, I o_.Kinds, I o_.Init, V (.slice a1 o_.Rows.length c1)])), (15, (52, [I ((gi picks i_110).Oper), I ((gi picks i_110).Result)]))]⟩ ρ a w χ ∧ Old w0 χ0 w χ ∧ RS tApi_Oper w χ a2 l_ c2 ∧ RS tApi_Pick w χ a3 picks c3 ∧ RS tApi_Row w χ a1 o_.Rows c1) ?_ ?_
              · refine regP T hS (sp := []) (ks := [1, 2, 3, 4, 13, 14, 15]) (bs := [5, 15]) (sy' := ⟨[(1, V (.slice a2 l_.length c2)), (2, I state_108), (3, V (.slice a3 picks.length c3)), (4, Pt 5 0), (13, I i_110), (14, Pt 15 0), (15, I 0)], [(5, (24, [I o_.States, I o_.Kinds, I o_.Init, V (.slice a1 o_.Rows.length c1)])), (15, (52, [I ((gi picks i_110).Oper), I ((gi picks i_110).Result)]))]⟩) (by kernel_rfl) ?_
                intro a hS
                refine wblock ?_
                obtain ⟨I2, μ2, hm0, hm⟩ := hm
                refine wloop (σ := Int) (fun s a w => ∃ (ρ : Nat → Nat) (χ : Nat → Nat), I2 s ∧ St Try.f15.ntmps ⟨[(1, V (.slice a2 l_.length c2)), (2, I state_108), (3, V (.slice a3 picks.length c3)), (4, Pt 5 0), (13, I i_110), (14, Pt 15 0), (15, I s)], [(5, (24, [I o_.States, I o_.Kinds, I o_.Init, V (.slice a1 o_.Rows.length c1)])), (15, (52, [I ((gi picks i_110).Oper), I ((gi picks i_110).Result)]))]⟩ ρ a w χ ∧ Old w0 χ0 w χ ∧ RS tApi_Oper w χ a2 l_ c2 ∧ RS tApi_Pick w χ a3 picks c3 ∧ RS tApi_Row w χ a1 o_.Rows c1) (fun s => μ2 s) (0) ?_ ?_
                · exact ⟨ρ, _, hm0, hS.sel [1, 2, 3, 4, 13, 14, 15] [5, 15] (by kernel_rfl), hO, h107, h109, h111⟩
                · rintro k_147 a w156 ⟨ρ, χ155, hI, hS, hO, h145, h146, h148⟩
                  replace hm := hm k_147 hI
                  clear hI hm0
                  refine wseq ?_
                  refine regP T hS (sp := []) (ks := [1, 2, 3, 4, 13, 14, 15, 56]) (bs := [5, 15]) (sy' := ⟨[(1, V (.slice a2 l_.length c2)), (2, I state_108), (3, V (.slice a3 picks.length c3)), (4, Pt 5 0), (13, I i_110), (14, Pt 15 0), (15, I k_147), (56, B (decide (k_147 < i_110)))], [(5, (24, [I o_.States, I o_.Kinds, I o_.Init, V (.slice a1 o_.Rows.length c1)])), (15, (52, [I ((gi picks i_110).Oper), I ((gi picks i_110).Result)]))]⟩) (by kernel_rfl) ?_
                  intro a hS
                  refine wcond hS (b := decide (k_147 < i_110)) (by kernel_rfl) (fun hb => ?_) (fun hb => ?_)
                  · replace hm := hm.1 hb
                    refine wskip ?_
                    refine wseq ?_
                    refine wblock ?_
                    refine drawnS [5, 15] mixed hS ?_
                    intro w149 hS hE hD hH
                    replace hO := hO.mv hE rfl rfl
                    replace h145 := h145.mv hE rfl
                    replace h146 := h146.mv hE rfl
                    replace h148 := h148.mv hE rfl
                    clear hE
                    refine take T [0, 1, 5, 6] [5, 15] [1, 2, 3, 4, 13, 14, 15, 59, 60, 65] hS (by kernel_rfl) (by kernel_rfl) (by kernel_rfl) hH (listed' := #[true, true, false, false, false, true, true, false]) (fuel := 4) (sy' := ⟨[(1, V (.slice a2 l_.length c2)), (2, I state_108), (3, V (.slice a3 picks.length c3)), (4, Pt 5 0), (13, I i_110), (14, Pt 15 0), (15, I k_147), (59, V (.slice a3 picks.length c3)), (60, I k_147), (65, I ((gi picks i_110).Oper))], [(5, (24, [I o_.States, I o_.Kinds, I o_.Init, V (.slice a1 o_.Rows.length c1)])), (15, (52, [I ((gi picks i_110).Oper), I ((gi picks i_110).Result)]))]⟩) (by kernel_rfl) (by rfl) ?_
                    intro a hS
                    obtain ⟨hq, hm⟩ := hm
                    refine dindex (e := 52) (k := .i64) T 2 hS (by kernel_rfl) (by kernel_rfl) (by kernel_rfl) (by rfl) (by kernel_rfl) hH (by kernel_rfl) (by kernel_rfl) h146 (by kernel_rfl) (by kernel_rfl) hq.1 hq.2 ?_
                    intro A150 a h151 hS
                    clear hq
                    have h151b := h151.here
                    refine dfieldA (off := 0) (fsz := 1) (ft := 3) (TF := tI) (y := (gi picks k_147).Oper) 3 T hS (by kernel_rfl) (by kernel_rfl) (by kernel_rfl) (by rfl) (by kernel_rfl) hH (by kernel_rfl) h151 (by kernel_rfl) (by kernel_rfl) (by kernel_rfl) (fun cs h => Api_Pick_f0 h) ?_
                    intro A152 a h153 hbl hS
                    have h153b := h151b
                    rw [← hbl] at h153b
                    clear hbl
                    refine dload1 T 4 hS (by kernel_rfl) (by kernel_rfl) (by kernel_rfl) (by rfl) (by kernel_rfl) hH (by kernel_rfl) h153 h153b rfl (by kernel_rfl) ?_
                    intro v154 a hv hS
                    cases hv
                    refine take T [7] [5, 15] [1, 2, 3, 4, 13, 14, 15, 66] hS (by kernel_rfl) (by kernel_rfl) (by kernel_rfl) hH (listed' := #[true, true, true, true, true, true, true, true]) (fuel := 0) (sy' := ⟨[(1, V (.slice a2 l_.length c2)), (2, I state_108), (3, V (.slice a3 picks.length c3)), (4, Pt 5 0), (13, I i_110), (14, Pt 15 0), (15, I k_147), (66, B (((gi picks k_147).Oper) == ((gi picks i_110).Oper)))], [(5, (24, [I o_.States, I o_.Kinds, I o_.Init, V (.slice a1 o_.Rows.length c1)])), (15, (52, [I ((gi picks i_110).Oper), I ((gi picks i_110).Result)]))]⟩) (by kernel_rfl) (by rfl) ?_
                    intro a hS
                    refine drawnDone (by kernel_rfl) ?_
                    clear hD hH
                    replace hS := hS.sel [1, 2, 3, 4, 13, 14, 15, 66] [5, 15] (sy' := ⟨[(1, V (.slice a2 l_.length c2)), (2, I state_108), (3, V (.slice a3 picks.length c3)), (4, Pt 5 0), (13, I i_110), (14, Pt 15 0), (15, I k_147), (66, B (((gi picks k_147).Oper) == ((gi picks i_110).Oper)))], [(5, (24, [I o_.States, I o_.Kinds, I o_.Init, V (.slice a1 o_.Rows.length c1)])), (15, (52, [I ((gi picks i_110).Oper), I ((gi picks i_110).Result)]))]⟩) (by kernel_rfl)
                    refine wcond hS (b := (((gi picks k_147).Oper) == ((gi picks i_110).Oper))) (by kernel_rfl) (fun hb => ?_) (fun hb => ?_)
                    · replace hm := hm.1 hb
                      refine regP T hS (sp := []) (ks := [8, 9, 10]) (bs := []) (sy' := ⟨[(8, I 0), (9, I i_110), (10, I 21)], []⟩) (by kernel_rfl) ?_
                      intro a hS
                      refine wret ?_
                      exact fin T hS hO (fun c => c) rfl (r := [.int .i64 0, .int .i64 i_110, .int .i64 21]) (by kernel_rfl) (fun χ' hM hC => ⟨(0, i_110, 21), hm, rfl⟩)
                    · replace hm := hm.2 hb
                      refine wskip ?_
                      refine region (endP T hS (sp := []) (ks := [1, 2, 3, 4, 13, 14, 15]) (bs := [5, 15]) (sy' := ⟨[(1, V (.slice a2 l_.length c2)), (2, I state_108), (3, V (.slice a3 picks.length c3)), (4, Pt 5 0), (13, I i_110), (14, Pt 15 0), (15, I (IntKind.i64.wrap (k_147 + 1)))], [(5, (24, [I o_.States, I o_.Kinds, I o_.Init, V (.slice a1 o_.Rows.length c1)])), (15, (52, [I ((gi picks i_110).Oper), I ((gi picks i_110).Result)]))]⟩) (by kernel_rfl) ?_)
                      intro a hS
                      exact ⟨IntKind.i64.wrap (k_147 + 1), ⟨ρ, _, hm.1, hS.sel [1, 2, 3, 4, 13, 14, 15] [5, 15] (by kernel_rfl), hO, h145, h146, h148⟩, hm.2⟩
                  · replace hm := hm.2 hb
                    refine wexit (by rfl) ?_
                    exact ⟨ρ, _, hm, hS.sel [1, 2, 3, 4, 13, 14] [5, 15] (by kernel_rfl), hO, h145, h146, h148⟩
              · rintro a w158 ⟨ρ, χ157, hm, hS, hO, h115, h116, h117⟩
                unfold VC15_J2 at hm
                refine drawnS [5, 15] mixed hS ?_
                intro w118 hS hE hD hH
                replace hO := hO.mv hE rfl rfl
                replace h115 := h115.mv hE rfl
                replace h116 := h116.mv hE rfl
                replace h117 := h117.mv hE rfl
                clear hE
                refine take T [0, 1, 2, 3, 8, 4, 9] [5, 15] [1, 3, 4, 13, 14, 69, 70, 71, 73, 78] hS (by kernel_rfl) (by kernel_rfl) (by kernel_rfl) hH (listed' := #[true, true, true, true, true, false, false, false, true, true, false, false, false, false, false, false]) (fuel := 9) (sy' := ⟨[(1, V (.slice a2 l_.length c2)), (3, V (.slice a3 picks.length c3)), (4, Pt 5 0), (13, I i_110), (14, Pt 15 0), (69, V (.agg #[.int .i64 o_.States, .int .i64 o_.Kinds, .int .i64 o_.Init, .slice a1 o_.Rows.length c1])), (70, I state_108), (71, V (.slice a2 l_.length c2)), (73, I ((gi picks i_110).Oper)), (78, I ((gi picks i_110).Result))], [(5, (24, [I o_.States, I o_.Kinds, I o_.Init, V (.slice a1 o_.Rows.length c1)])), (15, (52, [I ((gi picks i_110).Oper), I ((gi picks i_110).Result)]))]⟩) (by kernel_rfl) (by rfl) ?_
                intro a hS
                obtain ⟨hq, hm⟩ := hm
                refine dindex (e := 54) (k := .i64) T 5 hS (by kernel_rfl) (by kernel_rfl) (by kernel_rfl) (by rfl) (by kernel_rfl) hH (by kernel_rfl) (by kernel_rfl) h115 (by kernel_rfl) (by kernel_rfl) hq.1 hq.2 ?_
                intro A119 a h120 hS
                clear hq
                have h120b := h120.here
                refine dfieldA (off := 1) (fsz := 1) (ft := 3) (TF := tI) (y := (gi l_ ((gi picks i_110).Oper)).Kind) 6 T hS (by kernel_rfl) (by kernel_rfl) (by kernel_rfl) (by rfl) (by kernel_rfl) hH (by kernel_rfl) h120 (by kernel_rfl) (by kernel_rfl) (by kernel_rfl) (fun cs h => Api_Oper_f1 h) ?_
                intro A121 a h122 hbl hS
                have h122b := h120b
                rw [← hbl] at h122b
                clear hbl
                refine dload1 T 7 hS (by kernel_rfl) (by kernel_rfl) (by kernel_rfl) (by rfl) (by kernel_rfl) hH (by kernel_rfl) h122 h122b rfl (by kernel_rfl) ?_
                intro v123 a hv hS
                cases hv
                refine only 10 (by kernel_rfl) (by rfl) (call hS (by kernel_rfl) (by kernel_rfl) hb18 (by kernel_rfl) (fun _ _ => rfl) (k18 _ _ o_ state_108 ((gi l_ ((gi picks i_110).Oper)).Kind) ((gi picks i_110).Result) a1 c1 h117) ?_)
                intro v124 a w125 χ126 hE hp hS
                replace hO := hO.mv hE rfl rfl
                replace hD := hD.ev hE rfl
                replace h115 := h115.mv hE rfl
                replace h116 := h116.mv hE rfl
                replace h117 := h117.mv hE rfl
                replace h120 := h120.mv hE rfl
                replace h122 := h122.mv hE rfl
                clear hE
                obtain ⟨r127, hr⟩ : ∃ r, ref28_Step o_ state_108 ((gi l_ ((gi picks i_110).Oper)).Kind) ((gi picks i_110).Result) = r := ⟨_, rfl⟩
                replace hm := hm r127 hr
                rw [hr] at hp
                clear hr
                subst hp
                replace hS := hS.sel [1, 3, 4, 13, 14, 69, 70, 71, 73, 78, 74, 75, 76, 79] [5, 15] (sy' := ⟨[(1, V (.slice a2 l_.length c2)), (3, V (.slice a3 picks.length c3)), (4, Pt 5 0), (13, I i_110), (14, Pt 15 0), (69, V (.agg #[.int .i64 o_.States, .int .i64 o_.Kinds, .int .i64 o_.Init, .slice a1 o_.Rows.length c1])), (70, I state_108), (71, V (.slice a2 l_.length c2)), (73, I ((gi picks i_110).Oper)), (78, I ((gi picks i_110).Result)), (74, V (.pointer (some A119))), (75, V (.pointer (some A121))), (76, I ((gi l_ ((gi picks i_110).Oper)).Kind)), (79, V (.tuple #[.int .i64 r127.1, .int .i64 r127.2]))], [(5, (24, [I o_.States, I o_.Kinds, I o_.Init, V (.slice a1 o_.Rows.length c1)])), (15, (52, [I ((gi picks i_110).Oper), I ((gi picks i_110).Result)]))]⟩) (by kernel_rfl)
                refine andH (Hold.of hS (bks := [5, 15]) (by kernel_rfl) hD) ?_
                intro hH
                refine take T [11, 12, 13, 14, 15] [5, 15] [1, 3, 4, 13, 14, 16, 17] hS (by kernel_rfl) (by kernel_rfl) (by kernel_rfl) hH (listed' := #[true, true, true, true, true, true, true, true, true, true, true, true, true, true, true, true]) (fuel := 0) (sy' := ⟨[(1, V (.slice a2 l_.length c2)), (3, V (.slice a3 picks.length c3)), (4, Pt 5 0), (13, I i_110), (14, Pt 15 0), (16, I r127.1), (17, I r127.2)], [(5, (24, [I o_.States, I o_.Kinds, I o_.Init, V (.slice a1 o_.Rows.length c1)])), (15, (52, [I ((gi picks i_110).Oper), I ((gi picks i_110).Result)]))]⟩) (by kernel_rfl) (by rfl) ?_
                intro a hS
                refine drawnDone (by kernel_rfl) ?_
                clear hD hH
                replace hS := hS.sel [1, 3, 4, 13, 14, 16, 17] [5, 15] (sy' := ⟨[(1, V (.slice a2 l_.length c2)), (3, V (.slice a3 picks.length c3)), (4, Pt 5 0), (13, I i_110), (14, Pt 15 0), (16, I r127.1), (17, I r127.2)], [(5, (24, [I o_.States, I o_.Kinds, I o_.Init, V (.slice a1 o_.Rows.length c1)])), (15, (52, [I ((gi picks i_110).Oper), I ((gi picks i_110).Result)]))]⟩) (by kernel_rfl)
                refine wseq ?_
                refine regP T hS (sp := []) (ks := [1, 3, 4, 13, 14, 16, 17, 83]) (bs := [5, 15]) (sy' := ⟨[(1, V (.slice a2 l_.length c2)), (3, V (.slice a3 picks.length c3)), (4, Pt 5 0), (13, I i_110), (14, Pt 15 0), (16, I r127.1), (17, I r127.2), (83, B (r127.2 != 0))], [(5, (24, [I o_.States, I o_.Kinds, I o_.Init, V (.slice a1 o_.Rows.length c1)])), (15, (52, [I ((gi picks i_110).Oper), I ((gi picks i_110).Result)]))]⟩) (by kernel_rfl) ?_
                intro a hS
                refine wcond hS (b := (r127.2 != 0)) (by kernel_rfl) (fun hb => ?_) (fun hb => ?_)
                · replace hm := hm.1 hb
                  refine regP T hS (sp := []) (ks := [8, 9, 10]) (bs := []) (sy' := ⟨[(8, I 0), (9, I i_110), (10, I r127.2)], []⟩) (by kernel_rfl) ?_
                  intro a hS
                  refine wret ?_
                  exact fin T hS hO (fun c => c) rfl (r := [.int .i64 0, .int .i64 i_110, .int .i64 r127.2]) (by kernel_rfl) (fun χ' hM hC => ⟨(0, i_110, r127.2), hm, rfl⟩)
                · replace hm := hm.2 hb
                  refine wskip ?_
                  refine wseq ?_
                  refine wcut (fun a w => ∃ (ρ : Nat → Nat) (χ : Nat → Nat) (x_130 : Bool), VC15_J3 Q I1 μ1 state_108 i_110 r127 x_130 ∧ St Try.f15.ntmps ⟨[(1, V (.slice a2 l_.length c2)), (3, V (.slice a3 picks.length c3)), (4, Pt 5 0), (13, I i_110), (16, I r127.1), (103, B x_130)], [(5, (24, [I o_.States, I o_.Kinds, I o_.Init, V (.slice a1 o_.Rows.length c1)]))]⟩ ρ a w χ ∧ Old w0 χ0 w χ ∧ RS tApi_Oper w χ a2 l_ c2 ∧ RS tApi_Pick w χ a3 picks c3 ∧ RS tApi_Row w χ a1 o_.Rows c1) ?_ ?_
                  · refine drawn [5, 15] mixed hS ?_
                    intro w132 hS hE hD hH
                    replace hO := hO.mv hE rfl rfl
                    replace h115 := h115.mv hE rfl
                    replace h116 := h116.mv hE rfl
                    replace h117 := h117.mv hE rfl
                    clear hE
                    refine take T [0, 1, 2] [5, 15] [1, 3, 4, 13, 14, 16, 86, 88] hS (by kernel_rfl) (by kernel_rfl) (by kernel_rfl) hH (listed' := #[true, true, true, false, false, false, false, false, false, false, false, false, false, false, false, false, false, false]) (fuel := 15) (sy' := ⟨[(1, V (.slice a2 l_.length c2)), (3, V (.slice a3 picks.length c3)), (4, Pt 5 0), (13, I i_110), (14, Pt 15 0), (16, I r127.1), (86, V (.slice a2 l_.length c2)), (88, I ((gi picks i_110).Oper))], [(5, (24, [I o_.States, I o_.Kinds, I o_.Init, V (.slice a1 o_.Rows.length c1)])), (15, (52, [I ((gi picks i_110).Oper), I ((gi picks i_110).Result)]))]⟩) (by kernel_rfl) (by rfl) ?_
                    intro a hS
                    obtain ⟨hq, hm⟩ := hm
                    refine dindex (e := 54) (k := .i64) T 3 hS (by kernel_rfl) (by kernel_rfl) (by kernel_rfl) (by rfl) (by kernel_rfl) hH (by kernel_rfl) (by kernel_rfl) h115 (by kernel_rfl) (by kernel_rfl) hq.1 hq.2 ?_
                    intro A133 a h134 hS
                    clear hq
                    have h134b := h134.here
                    refine dfieldA (off := 3) (fsz := 1) (ft := 3) (TF := tI) (y := (gi l_ ((gi picks i_110).Oper)).End) 4 T hS (by kernel_rfl) (by kernel_rfl) (by kernel_rfl) (by rfl) (by kernel_rfl) hH (by kernel_rfl) h134 (by kernel_rfl) (by kernel_rfl) (by kernel_rfl) (fun cs h => Api_Oper_f3 h) ?_
                    intro A135 a h136 hbl hS
                    have h136b := h134b
                    rw [← hbl] at h136b
                    clear hbl
                    refine dload1 T 5 hS (by kernel_rfl) (by kernel_rfl) (by kernel_rfl) (by rfl) (by kernel_rfl) hH (by kernel_rfl) h136 h136b rfl (by kernel_rfl) ?_
                    intro v137 a hv hS
                    cases hv
                    refine take T [6, 7] [5, 15] [1, 3, 4, 13, 14, 16, 93] hS (by kernel_rfl) (by kernel_rfl) (by kernel_rfl) hH (listed' := #[true, true, true, true, true, true, true, true, false, false, false, false, false, false, false, false, false, false]) (fuel := 10) (sy' := ⟨[(1, V (.slice a2 l_.length c2)), (3, V (.slice a3 picks.length c3)), (4, Pt 5 0), (13, I i_110), (14, Pt 15 0), (16, I r127.1), (93, B (((gi l_ ((gi picks i_110).Oper)).End) != (-1)))], [(5, (24, [I o_.States, I o_.Kinds, I o_.Init, V (.slice a1 o_.Rows.length c1)])), (15, (52, [I ((gi picks i_110).Oper), I ((gi picks i_110).Result)]))]⟩) (by kernel_rfl) (by rfl) ?_
                    intro a hS
                    rcases Bool.eq_false_or_eq_true (((gi l_ ((gi picks i_110).Oper)).End) != (-1)) with hb | hb
                    · replace hS := hS.lit (t := 93) (by kernel_rfl) hb
                      replace hm := hm.1 hb
                      refine take T [8, 9, 14, 10, 15] [5, 15] [1, 3, 4, 13, 16, 93, 94, 95, 96, 100, 101] hS (by kernel_rfl) (by kernel_rfl) (by kernel_rfl) hH (listed' := #[true, true, true, true, true, true, true, true, true, true, true, false, false, false, true, true, false, false]) (fuel := 5) (sy' := ⟨[(1, V (.slice a2 l_.length c2)), (3, V (.slice a3 picks.length c3)), (4, Pt 5 0), (13, I i_110), (16, I r127.1), (93, B true), (94, V (.slice a2 l_.length c2)), (95, Pt 15 0), (96, I ((gi picks i_110).Oper)), (100, Pt 15 1), (101, I ((gi picks i_110).Result))], [(5, (24, [I o_.States, I o_.Kinds, I o_.Init, V (.slice a1 o_.Rows.length c1)])), (15, (52, [I ((gi picks i_110).Oper), I ((gi picks i_110).Result)]))]⟩) (by kernel_rfl) (by rfl) ?_
                      intro a hS
                      obtain ⟨hq, hm⟩ := hm
                      refine dindex (e := 54) (k := .i64) T 11 hS (by kernel_rfl) (by kernel_rfl) (by kernel_rfl) (by rfl) (by kernel_rfl) hH (by kernel_rfl) (by kernel_rfl) h115 (by kernel_rfl) (by kernel_rfl) hq.1 hq.2 ?_
                      intro A138 a h139 hS
                      clear hq
                      have h139b := h139.here
                      refine dfieldA (off := 4) (fsz := 1) (ft := 3) (TF := tI) (y := (gi l_ ((gi picks i_110).Oper)).Result) 12 T hS (by kernel_rfl) (by kernel_rfl) (by kernel_rfl) (by rfl) (by kernel_rfl) hH (by kernel_rfl) h139 (by kernel_rfl) (by kernel_rfl) (by kernel_rfl) (fun cs h => Api_Oper_f4 h) ?_
                      intro A140 a h141 hbl hS
                      have h141b := h139b
                      rw [← hbl] at h141b
                      clear hbl
                      refine dload1 T 13 hS (by kernel_rfl) (by kernel_rfl) (by kernel_rfl) (by rfl) (by kernel_rfl) hH (by kernel_rfl) h141 h141b rfl (by kernel_rfl) ?_
                      intro v142 a hv hS
                      cases hv
                      refine take T [16, 17] [5, 15] [1, 3, 4, 13, 16, 94, 95, 96, 97, 98, 99, 100, 101, 102, 103] hS (by kernel_rfl) (by kernel_rfl) (by kernel_rfl) hH (listed' := #[true, true, true, true, true, true, true, true, true, true, true, true, true, true, true, true, true, true]) (fuel := 0) (sy' := ⟨[(1, V (.slice a2 l_.length c2)), (3, V (.slice a3 picks.length c3)), (4, Pt 5 0), (13, I i_110), (16, I r127.1), (94, V (.slice a2 l_.length c2)), (95, Pt 15 0), (96, I ((gi picks i_110).Oper)), (97, V (.pointer (some A138))), (98, V (.pointer (some A140))), (99, I ((gi l_ ((gi picks i_110).Oper)).Result)), (100, Pt 15 1), (101, I ((gi picks i_110).Result)), (102, B (((gi l_ ((gi picks i_110).Oper)).Result) != ((gi picks i_110).Result))), (103, B (((gi l_ ((gi picks i_110).Oper)).Result) != ((gi picks i_110).Result)))], [(5, (24, [I o_.States, I o_.Kinds, I o_.Init, V (.slice a1 o_.Rows.length c1)])), (15, (52, [I ((gi picks i_110).Oper), I ((gi picks i_110).Result)]))]⟩) (by kernel_rfl) (by rfl) ?_
                      intro a hS
                      refine drawnDone (by kernel_rfl) ?_
                      clear hD hH
                      replace hS := hS.sel [1, 3, 4, 13, 16, 94, 95, 96, 97, 98, 99, 100, 101, 102, 103] [5, 15] (sy' := ⟨[(1, V (.slice a2 l_.length c2)), (3, V (.slice a3 picks.length c3)), (4, Pt 5 0), (13, I i_110), (16, I r127.1), (94, V (.slice a2 l_.length c2)), (95, Pt 15 0), (96, I ((gi picks i_110).Oper)), (97, V (.pointer (some A138))), (98, V (.pointer (some A140))), (99, I ((gi l_ ((gi picks i_110).Oper)).Result)), (100, Pt 15 1), (101, I ((gi picks i_110).Result)), (102, B (((gi l_ ((gi picks i_110).Oper)).Result) != ((gi picks i_110).Result))), (103, B (((gi l_ ((gi picks i_110).Oper)).Result) != ((gi picks i_110).Result)))], [(5, (24, [I o_.States, I o_.Kinds, I o_.Init, V (.slice a1 o_.Rows.length c1)])), (15, (52, [I ((gi picks i_110).Oper), I ((gi picks i_110).Result)]))]⟩) (by kernel_rfl)
                      exact ⟨ρ, _, (((gi l_ ((gi picks i_110).Oper)).Result) != ((gi picks i_110).Result)), hm, hS.sel [1, 3, 4, 13, 16, 103] [5] (by kernel_rfl), hO, h115, h116, h117⟩
                    · replace hS := hS.lit (t := 93) (by kernel_rfl) hb
                      replace hm := hm.2 hb
                      refine take T [8, 9, 14, 10, 15, 11, 12, 13, 16, 17] [5, 15] [1, 3, 4, 13, 16, 94, 95, 96, 97, 98, 99, 100, 101, 102, 103] hS (by kernel_rfl) (by kernel_rfl) (by kernel_rfl) hH (listed' := #[true, true, true, true, true, true, true, true, true, true, true, true, true, true, true, true, true, true]) (fuel := 0) (sy' := ⟨[(1, V (.slice a2 l_.length c2)), (3, V (.slice a3 picks.length c3)), (4, Pt 5 0), (13, I i_110), (16, I r127.1), (94, V undef), (95, V undef), (96, V undef), (97, V undef), (98, V undef), (99, V undef), (100, V undef), (101, V undef), (102, V undef), (103, B false)], [(5, (24, [I o_.States, I o_.Kinds, I o_.Init, V (.slice a1 o_.Rows.length c1)])), (15, (52, [I ((gi picks i_110).Oper), I ((gi picks i_110).Result)]))]⟩) (by kernel_rfl) (by rfl) ?_
                      intro a hS
                      refine drawnDone (by kernel_rfl) ?_
                      clear hD hH
                      replace hS := hS.sel [1, 3, 4, 13, 16, 103] [5] (sy' := ⟨[(1, V (.slice a2 l_.length c2)), (3, V (.slice a3 picks.length c3)), (4, Pt 5 0), (13, I i_110), (16, I r127.1), (103, B false)], [(5, (24, [I o_.States, I o_.Kinds, I o_.Init, V (.slice a1 o_.Rows.length c1)]))]⟩) (by kernel_rfl)
                      exact ⟨ρ, _, false, hm, hS.sel [1, 3, 4, 13, 16, 103] [5] (by kernel_rfl), hO, h115, h116, h117⟩
                  · rintro a w144 ⟨ρ, χ143, x_130, hm, hS, hO, h128, h129, h131⟩
                    unfold VC15_J3 at hm
                    refine wcond hS (b := x_130) (by kernel_rfl) (fun hb => ?_) (fun hb => ?_)
                    · replace hm := hm.1 hb
                      refine regP T hS (sp := []) (ks := [8, 9, 10]) (bs := []) (sy' := ⟨[(8, I 0), (9, I i_110), (10, I 40)], []⟩) (by kernel_rfl) ?_
                      intro a hS
                      refine wret ?_
                      exact fin T hS hO (fun c => c) rfl (r := [.int .i64 0, .int .i64 i_110, .int .i64 40]) (by kernel_rfl) (fun χ' hM hC => ⟨(0, i_110, 40), hm, rfl⟩)
                    · replace hm := hm.2 hb
                      refine wskip ?_
                      refine region (endP T hS (sp := []) (ks := [1, 2, 3, 4, 13]) (bs := [5]) (sy' := ⟨[(1, V (.slice a2 l_.length c2)), (2, I r127.1), (3, V (.slice a3 picks.length c3)), (4, Pt 5 0), (13, I i_110)], [(5, (24, [I o_.States, I o_.Kinds, I o_.Init, V (.slice a1 o_.Rows.length c1)]))]⟩) (by kernel_rfl) ?_)
                      intro a hS
                      refine region (endP T hS (sp := []) (ks := [1, 2, 3, 4, 13]) (bs := [5]) (sy' := ⟨[(1, V (.slice a2 l_.length c2)), (2, I r127.1), (3, V (.slice a3 picks.length c3)), (4, Pt 5 0), (13, I (IntKind.i64.wrap (i_110 + 1)))], [(5, (24, [I o_.States, I o_.Kinds, I o_.Init, V (.slice a1 o_.Rows.length c1)]))]⟩) (by kernel_rfl) ?_)
                      intro a hS
                      exact ⟨⟨r127.1, IntKind.i64.wrap (i_110 + 1)⟩, ⟨ρ, _, hm.1, hS.sel [1, 2, 3, 4, 13] [5] (by kernel_rfl), hO, h128, h129, h131⟩, hm.2⟩
          · replace hm := hm.2 hb
            refine wexit (by rfl) ?_
            exact ⟨ρ, _, state_108, hm, hS.sel [2, 3] [] (by kernel_rfl), hO, h109⟩
      · rintro a w164 ⟨ρ, χ163, state_105, hm, hS, hO, h106⟩
        unfold VC15_J1 at hm
        refine regP T hS (sp := []) (ks := [8, 9, 10]) (bs := []) (sy' := ⟨[(8, I state_105), (9, I ((picks.length : Nat) : Int)), (10, I 0)], []⟩) (by kernel_rfl) ?_
        intro a hS
        refine wret ?_
        exact fin T hS hO (fun c => c) rfl (r := [.int .i64 state_105, .int .i64 ((picks.length : Nat) : Int), .int .i64 0]) (by kernel_rfl) (fun χ' hM hC => ⟨(state_105, ((picks.length : Nat) : Int), 0), hm, rfl⟩)
theorem C15 (k18 : S18) (k43 : S43) (v : ∀ (o_ : Api_Object) (l_ : List Api_Oper) (state : Int) (picks : List Api_Pick), VC15 o_ l_ state picks (fun r => r = ref28_From o_ l_ state picks)) : S15 := by
  intro w χ o_ l_ state picks a1 c1 a2 c2 a3 c3   h1 h2 h3
  refine (W15 k18 k43 w χ o_ l_ state picks a1 c1 a2 c2 a3 c3   _ (v o_ l_ state picks) h1 h2 h3).mono ?_
  rintro _ _ _ _ ⟨r, rfl, h⟩
  exact h
def S69 : Prop := ∀ (w : World) (χ : Nat → Nat) (r_ : Api_Row) (cap1 : Int) (cap2 : Int) (b1 : Nat) (i1 : Nat) (b2 : Nat) (i2 : Nat), Cell w χ b1 i1 3 [.int .i64 cap1] → Cell w χ b2 i2 3 [.int .i64 cap2] → Apart [i1, i2] → Ret Try.prog 69 #[.agg #[.int .i64 r_.State, .int .i64 r_.Kind, .int .i64 r_.Next, .int .i64 r_.Result], .pointer (some ⟨b1, 0, none⟩), .pointer (some ⟨b2, 0, none⟩)] (pR [i1, i2]) w χ (fun w χ' v => v = .bool (object_Move_1 r_ cap1 cap2) ∧ Cell w χ' b1 i1 3 [.int .i64 cap1] ∧ Cell w χ' b2 i2 3 [.int .i64 cap2])
theorem hb69 : hasBody Try.prog 69 = true := by kernel_rfl
/-- replevin/object.Move$1 -/
theorem W69 (w0 : World) (χ0 : Nat → Nat) (r_ : Api_Row) (cap1 : Int) (cap2 : Int) (b1 : Nat) (i1 : Nat) (b2 : Nat) (i2 : Nat) (Q : Bool → Prop) (hm : VC69 r_ cap1 cap2 Q) (hc1 : Cell w0 χ0 b1 i1 3 [.int .i64 cap1]) (hc2 : Cell w0 χ0 b2 i2 3 [.int .i64 cap2]) (hA : Apart [i1, i2]) :
    Ret Try.prog 69 #[.agg #[.int .i64 r_.State, .int .i64 r_.Kind, .int .i64 r_.Next, .int .i64 r_.Result], .pointer (some ⟨b1, 0, none⟩), .pointer (some ⟨b2, 0, none⟩)] (pR [i1, i2]) w0 χ0 (fun w χ' v => ∃ r, Q r ∧ v = .bool r ∧ Cell w χ' b1 i1 3 [.int .i64 cap1] ∧ Cell w χ' b2 i2 3 [.int .i64 cap2]) := by
  unfold VC69 at hm
  refine enterR Try.func69 rfl (f0of [(i1, 901), (i2, 902)]) (fun id => (bif Nat.beq id 901 then b1 else (bif Nat.beq id 902 then b2 else 0))) (args := [V (.agg #[.int .i64 r_.State, .int .i64 r_.Kind, .int .i64 r_.Next, .int .i64 r_.Result]), Pt 901 0, Pt 902 0]) (bxs := [(901, (3, [I cap1])), (902, (3, [I cap2]))]) (by kernel_rfl) rfl (BoxesOK.cons (by kernel_rfl) (hc1.map (f0of_at 0 hA.1 rfl)) (BoxesOK.cons (by kernel_rfl) (hc2.map (f0of_at 1 hA.1 rfl)) BoxesOK.nil)) (f0of_0 (fun q hq => (hA.2 q.1 (List.mem_map.2 ⟨q, hq, rfl⟩)).1)) ?_
  intro a hS hO hM
  have hP : Pin [(901, b1), (902, b2)] (fun id => (bif Nat.beq id 901 then b1 else (bif Nat.beq id 902 then b2 else 0))) := by intro q hq; simp at hq; rcases hq with rfl | rfl <;> rfl
  generalize (fun id => (bif Nat.beq id 901 then b1 else (bif Nat.beq id 902 then b2 else 0))) = ρ at hS hP
  clear hc1 hc2
  clear hM
  refine regM T hS (sp := []) (ks := [1, 2, 3]) (bs := [4, 901, 902]) (sy' := ⟨[(1, Pt 901 0), (2, Pt 902 0), (3, Pt 4 0)], [(4, (102, [I r_.State, I r_.Kind, I r_.Next, I r_.Result])), (901, (3, [I cap1])), (902, (3, [I cap2]))]⟩) (by kernel_rfl) ?_
  intro ρ a w101 χ102 hS hE hr
  replace hO := hO.mv hE rfl rfl
  replace hP := hP.mv hr (by kernel_rfl)
  clear hE hr
  refine regO ?_
  refine opsP T hS 8 (sp := []) (ks := [5, 12]) (bs := [901, 902]) (sy' := ⟨[(5, V (.agg #[.int .i64 r_.State, .int .i64 r_.Kind, .int .i64 r_.Next, .int .i64 r_.Result])), (12, V (.agg #[.int .i64 cap1, .int .i64 cap2, .int .i64 r_.Next, .int .i64 r_.Result]))], [(901, (3, [I cap1])), (902, (3, [I cap2]))]⟩) (by kernel_rfl) ?_
  intro a hS
  refine op1 (structEq (op := .eql) (xs := [.int .i64 r_.State, .int .i64 r_.Kind, .int .i64 r_.Next, .int .i64 r_.Result]) (ys := [.int .i64 cap1, .int .i64 cap2, .int .i64 r_.Next, .int .i64 r_.Result]) (r := (r_.State == cap1 && (r_.Kind == cap2 && (r_.Next == r_.Next && (r_.Result == r_.Result && true))))) (b := (r_.State == cap1 && (r_.Kind == cap2 && (r_.Next == r_.Next && (r_.Result == r_.Result && true))))) T hS (by kernel_rfl) (by kernel_rfl) (by kernel_rfl) (by kernel_rfl) (by kernel_rfl) (by kernel_rfl) (by kernel_rfl) (by kernel_rfl) ?_)
  intro a hS
  refine endP T hS (sp := []) (ks := [4]) (bs := [901, 902]) (sy' := ⟨[(4, B (r_.State == cap1 && (r_.Kind == cap2 && (r_.Next == r_.Next && (r_.Result == r_.Result && true)))))], [(901, (3, [I cap1])), (902, (3, [I cap2]))]⟩) (by kernel_rfl) ?_
  intro a hS
  refine wret ?_
  exact finR T hS hO (fun c h => f0of_zero (by kernel_rfl) h) (fun c h => f0of_else (l := [(i1, 901), (i2, 902)]) h) (f1of [(i1, 901), (i2, 902)]) rfl (r := [.bool (r_.State == cap1 && (r_.Kind == cap2 && (r_.Next == r_.Next && (r_.Result == r_.Result && true))))]) (by kernel_rfl) (fun χ' hM hC => ⟨(r_.State == cap1 && (r_.Kind == cap2 && (r_.Next == r_.Next && (r_.Result == r_.Result && true)))), hm, rfl, ((hS.cell (id := 901) (t := 3) (cs := [I cap1]) (by kernel_rfl)).out (f := (f1of [(i1, 901), (i2, 902)])) hC (by kernel_rfl) (by kernel_rfl) (hP.at 0 rfl)), ((hS.cell (id := 902) (t := 3) (cs := [I cap2]) (by kernel_rfl)).out (f := (f1of [(i1, 901), (i2, 902)])) hC (by kernel_rfl) (by kernel_rfl) (hP.at 1 rfl))⟩)
theorem C69 (v : ∀ (r_ : Api_Row) (cap1 : Int) (cap2 : Int), VC69 r_ cap1 cap2 (fun r => r = object_Move_1 r_ cap1 cap2)) : S69 := by
  intro w χ r_ cap1 cap2   b1 i1 b2 i2 hc1 hc2 hA
  refine (W69 w χ r_ cap1 cap2   b1 i1 b2 i2 _ (v r_ cap1 cap2) hc1 hc2 hA).mono ?_
  rintro _ _ _ _ ⟨r, rfl, h⟩
  exact h
def S70_69 : Prop := ∀ (w : World) (χ : Nat → Nat) (s_ : List Api_Row) (cap1 : Int) (cap2 : Int) (a1 : Option Addr) (c1 : Nat) (b1 : Nat) (i1 : Nat) (b2 : Nat) (i2 : Nat), RS tApi_Row w χ a1 s_ c1 → Cell w χ b1 i1 3 [.int .i64 cap1] → Cell w χ b2 i2 3 [.int .i64 cap2] → Apart [i1, i2] → Ret Try.prog 70 #[.slice a1 s_.length c1, .func (.func 69) #[] #[.pointer (some ⟨b1, 0, none⟩), .pointer (some ⟨b2, 0, none⟩)]] (pR [i1, i2]) w χ (fun w χ' v => v = .int .i64 (slices_IndexFunc_api_Row_api_Row_object_Move_1 s_ cap1 cap2) ∧ Cell w χ' b1 i1 3 [.int .i64 cap1] ∧ Cell w χ' b2 i2 3 [.int .i64 cap2])
theorem hb70 : hasBody Try.prog 70 = true := by kernel_rfl
/-- slices.IndexFunc[[]replevin/api.Row,replevin/api.Row] -/
theorem W70_69 (k69 : S69) (w0 : World) (χ0 : Nat → Nat) (s_ : List Api_Row) (cap1 : Int) (cap2 : Int) (a1 : Option Addr) (c1 : Nat) (b1 : Nat) (i1 : Nat) (b2 : Nat) (i2 : Nat) (Q : Int → Prop) (hm : VC70_69 s_ cap1 cap2 Q) (h1 : RS tApi_Row w0 χ0 a1 s_ c1) (hc1 : Cell w0 χ0 b1 i1 3 [.int .i64 cap1]) (hc2 : Cell w0 χ0 b2 i2 3 [.int .i64 cap2]) (hA : Apart [i1, i2]) :
    Ret Try.prog 70 #[.slice a1 s_.length c1, .func (.func 69) #[] #[.pointer (some ⟨b1, 0, none⟩), .pointer (some ⟨b2, 0, none⟩)]] (pR [i1, i2]) w0 χ0 (fun w χ' v => ∃ r, Q r ∧ v = .int .i64 r ∧ Cell w χ' b1 i1 3 [.int .i64 cap1] ∧ Cell w χ' b2 i2 3 [.int .i64 cap2]) := by
  unfold VC70_69 at hm
  replace hm := hm (h1.sm (by kernel_rfl))
  refine enterR Try.func70 rfl (f0of [(i1, 901), (i2, 902)]) (fun id => (bif Nat.beq id 901 then b1 else (bif Nat.beq id 902 then b2 else 0))) (args := [V (.slice a1 s_.length c1), .f (.func 69) [] [.p 901 0, .p 902 0]]) (bxs := [(901, (3, [I cap1])), (902, (3, [I cap2]))]) (by kernel_rfl) rfl (BoxesOK.cons (by kernel_rfl) (hc1.map (f0of_at 0 hA.1 rfl)) (BoxesOK.cons (by kernel_rfl) (hc2.map (f0of_at 1 hA.1 rfl)) BoxesOK.nil)) (f0of_0 (fun q hq => (hA.2 q.1 (List.mem_map.2 ⟨q, hq, rfl⟩)).1)) ?_
  intro a hS hO hM
  have hP : Pin [(901, b1), (902, b2)] (fun id => (bif Nat.beq id 901 then b1 else (bif Nat.beq id 902 then b2 else 0))) := by intro q hq; simp at hq; rcases hq with rfl | rfl <;> rfl
  generalize (fun id => (bif Nat.beq id 901 then b1 else (bif Nat.beq id 902 then b2 else 0))) = ρ at hS hP
  clear hc1 hc2
  replace h1 := h1.m0 hM
  clear hM
  refine regP T hS (sp := []) (ks := [0, 1]) (bs := [901, 902]) (sy' := ⟨[(0, V (.slice a1 s_.length c1)), (1, .f (.func 69) [] [.p 901 0, .p 902 0])], [(901, (3, [I cap1])), (902, (3, [I cap2]))]⟩) (by kernel_rfl) ?_
  intro a hS
  refine wcut (fun a w => ∃ (ρ : Nat → Nat) (χ : Nat → Nat), VC70_69_J1 Q ∧ St Try.f70.ntmps ⟨[], [(901, (3, [I cap1])), (902, (3, [I cap2]))]⟩ ρ a w χ ∧ OldR (f0of [(i1, 901), (i2, 902)]) w0 χ0 w χ ∧ Pin [(901, b1), (902, b2)] ρ) ?_ ?_
  · refine regP T hS (sp := []) (ks := [0, 1, 7, 8]) (bs := [901, 902]) (sy' := ⟨[(0, V (.slice a1 s_.length c1)), (1, .f (.func 69) [] [.p 901 0, .p 902 0]), (7, I ((s_.length : Nat) : Int)), (8, I 0)], [(901, (3, [I cap1])), (902, (3, [I cap2]))]⟩) (by kernel_rfl) ?_
    intro a hS
    refine wblock ?_
    obtain ⟨I1, μ1, hm0, hm⟩ := hm
    refine wloop (σ := Int) (fun s a w => ∃ (ρ : Nat → Nat) (χ : Nat → Nat), I1 s ∧ St Try.f70.ntmps ⟨[(0, V (.slice a1 s_.length c1)), (1, .f (.func 69) [] [.p 901 0, .p 902 0]), (7, I ((s_.length : Nat) : Int)), (8, I s)], [(901, (3, [I cap1])), (902, (3, [I cap2]))]⟩ ρ a w χ ∧ OldR (f0of [(i1, 901), (i2, 902)]) w0 χ0 w χ ∧ Pin [(901, b1), (902, b2)] ρ ∧ RS tApi_Row w χ a1 s_ c1) (fun s => μ1 s) (0) ?_ ?_
    · exact ⟨ρ, _, hm0, hS.sel [0, 1, 7, 8] [901, 902] (by kernel_rfl), hO, hP, h1⟩
    · rintro x_102 a w113 ⟨ρ, χ112, hI, hS, hO, hP, h101⟩
      replace hm := hm x_102 hI
      clear hI hm0
      refine regP T hS (sp := []) (ks := [0, 1, 7, 8, 9]) (bs := [901, 902]) (sy' := ⟨[(0, V (.slice a1 s_.length c1)), (1, .f (.func 69) [] [.p 901 0, .p 902 0]), (7, I ((s_.length : Nat) : Int)), (8, I x_102), (9, B (decide (x_102 < ((s_.length : Nat) : Int))))], [(901, (3, [I cap1])), (902, (3, [I cap2]))]⟩) (by kernel_rfl) ?_
      intro a hS
      refine wseq ?_
      refine wcond hS (b := decide (x_102 < ((s_.length : Nat) : Int))) (by kernel_rfl) (fun hb => ?_) (fun hb => ?_)
      · replace hm := hm.1 hb
        refine wskip ?_
        refine wseq ?_
        refine wblock ?_
        refine regP T hS (sp := []) (ks := [0, 1, 5, 7, 8]) (bs := [901, 902]) (sy' := ⟨[(0, V (.slice a1 s_.length c1)), (1, .f (.func 69) [] [.p 901 0, .p 902 0]), (5, I x_102), (7, I ((s_.length : Nat) : Int)), (8, I x_102)], [(901, (3, [I cap1])), (902, (3, [I cap2]))]⟩) (by kernel_rfl) ?_
        intro a hS
        refine regO ?_
        refine opsP T hS 3 (sp := []) (ks := [0, 1, 5, 7, 8, 11, 12, 13]) (bs := [901, 902]) (sy' := ⟨[(0, V (.slice a1 s_.length c1)), (1, .f (.func 69) [] [.p 901 0, .p 902 0]), (5, I x_102), (7, I ((s_.length : Nat) : Int)), (8, I x_102), (11, .f (.func 69) [] [.p 901 0, .p 902 0]), (12, V (.slice a1 s_.length c1)), (13, I x_102)], [(901, (3, [I cap1])), (902, (3, [I cap2]))]⟩) (by kernel_rfl) ?_
        intro a hS
        obtain ⟨hq, hm⟩ := hm
        refine op1 (index (e := 102) (k := .i64) T hS (by kernel_rfl) (by kernel_rfl) (by kernel_rfl) (by kernel_rfl) h101 (by kernel_rfl) (by kernel_rfl) hq.1 hq.2 ?_)
        intro A103 a h104 hS
        clear hq
        refine op1 (loadA T hS (by kernel_rfl) (by kernel_rfl) (by kernel_rfl) h104 (by kernel_rfl) (by kernel_rfl) ?_)
        intro v105 a hv hS
        subst hv
        refine op1 (callCR (fi := []) (cp := [.p 901 0, .p 902 0]) hS (by kernel_rfl) (by kernel_rfl) hb69 (by kernel_rfl) (by kernel_rfl) (k69 _ _ (gi s_ x_102) cap1 cap2 (ρ 901) 901 (ρ 902) 902 (hS.cell (id := 901) (t := 3) (cs := [I cap1]) (by kernel_rfl)) (hS.cell (id := 902) (t := 3) (cs := [I cap2]) (by kernel_rfl)) ⟨by decide, by decide⟩) ?_)
        intro v106 a w107 χ108 hE hp hS
        replace hO := hO.mv hE rfl rfl
        replace h101 := h101.mv hE rfl
        replace h104 := h104.mv hE rfl
        clear hE
        obtain ⟨hp, hc110, hc111⟩ := hp
        obtain ⟨r109, hr⟩ : ∃ r, object_Move_1 (gi s_ x_102) cap1 cap2 = r := ⟨_, rfl⟩
        replace hm := hm r109 hr
        rw [hr] at hp
        clear hr
        subst hp
        replace hS := hS.addbox (id := 901) (t := 3) (cs := [I cap1]) (by kernel_rfl) hc110
        replace hS := hS.addbox (id := 902) (t := 3) (cs := [I cap2]) (by kernel_rfl) hc111
        clear hc110 hc111
        refine doneK ?_
        refine wcond hS (b := r109) (by kernel_rfl) (fun hb => ?_) (fun hb => ?_)
        · replace hm := hm.1 hb
          refine regP T hS (sp := []) (ks := [4]) (bs := [901, 902]) (sy' := ⟨[(4, I x_102)], [(901, (3, [I cap1])), (902, (3, [I cap2]))]⟩) (by kernel_rfl) ?_
          intro a hS
          refine wret ?_
          exact finR T hS hO (fun c h => f0of_zero (by kernel_rfl) h) (fun c h => f0of_else (l := [(i1, 901), (i2, 902)]) h) (f1of [(i1, 901), (i2, 902)]) rfl (r := [.int .i64 x_102]) (by kernel_rfl) (fun χ' hM hC => ⟨x_102, hm, rfl, ((hS.cell (id := 901) (t := 3) (cs := [I cap1]) (by kernel_rfl)).out (f := (f1of [(i1, 901), (i2, 902)])) hC (by kernel_rfl) (by kernel_rfl) (hP.at 0 rfl)), ((hS.cell (id := 902) (t := 3) (cs := [I cap2]) (by kernel_rfl)).out (f := (f1of [(i1, 901), (i2, 902)])) hC (by kernel_rfl) (by kernel_rfl) (hP.at 1 rfl))⟩)
        · replace hm := hm.2 hb
          refine wskip ?_
          refine region (endP T hS (sp := []) (ks := [0, 1, 7, 8]) (bs := [901, 902]) (sy' := ⟨[(0, V (.slice a1 s_.length c1)), (1, .f (.func 69) [] [.p 901 0, .p 902 0]), (7, I ((s_.length : Nat) : Int)), (8, I (IntKind.i64.wrap (x_102 + 1)))], [(901, (3, [I cap1])), (902, (3, [I cap2]))]⟩) (by kernel_rfl) ?_)
          intro a hS
          exact ⟨IntKind.i64.wrap (x_102 + 1), ⟨ρ, _, hm.1, hS.sel [0, 1, 7, 8] [901, 902] (by kernel_rfl), hO, hP, h101⟩, hm.2⟩
      · replace hm := hm.2 hb
        refine wexit (by rfl) ?_
        exact ⟨ρ, _, hm, hS.sel [] [901, 902] (by kernel_rfl), hO, hP⟩
  · rintro a w115 ⟨ρ, χ114, hm, hS, hO, hP⟩
    unfold VC70_69_J1 at hm
    refine regP T hS (sp := []) (ks := [4]) (bs := [901, 902]) (sy' := ⟨[(4, I (-1))], [(901, (3, [I cap1])), (902, (3, [I cap2]))]⟩) (by kernel_rfl) ?_
    intro a hS
    refine wret ?_
    exact finR T hS hO (fun c h => f0of_zero (by kernel_rfl) h) (fun c h => f0of_else (l := [(i1, 901), (i2, 902)]) h) (f1of [(i1, 901), (i2, 902)]) rfl (r := [.int .i64 (-1)]) (by kernel_rfl) (fun χ' hM hC => ⟨(-1), hm, rfl, ((hS.cell (id := 901) (t := 3) (cs := [I cap1]) (by kernel_rfl)).out (f := (f1of [(i1, 901), (i2, 902)])) hC (by kernel_rfl) (by kernel_rfl) (hP.at 0 rfl)), ((hS.cell (id := 902) (t := 3) (cs := [I cap2]) (by kernel_rfl)).out (f := (f1of [(i1, 901), (i2, 902)])) hC (by kernel_rfl) (by kernel_rfl) (hP.at 1 rfl))⟩)
theorem C70_69 (k69 : S69) (v : ∀ (s_ : List Api_Row) (cap1 : Int) (cap2 : Int), VC70_69 s_ cap1 cap2 (fun r => r = slices_IndexFunc_api_Row_api_Row_object_Move_1 s_ cap1 cap2)) : S70_69 := by
  intro w χ s_ cap1 cap2 a1 c1  b1 i1 b2 i2 h1 hc1 hc2 hA
  refine (W70_69 k69 w χ s_ cap1 cap2 a1 c1  b1 i1 b2 i2 _ (v s_ cap1 cap2) h1 hc1 hc2 hA).mono ?_
  rintro _ _ _ _ ⟨r, rfl, h⟩
  exact h
def S48 : Prop := ∀ (w : World) (χ : Nat → Nat) (o_ : Api_Object) (state : Int) (kind : Int) (a1 : Option Addr) (c1 : Nat), RS tApi_Row w χ a1 o_.Rows c1 → Ret Try.prog 48 #[.agg #[.int .i64 o_.States, .int .i64 o_.Kinds, .int .i64 o_.Init, .slice a1 o_.Rows.length c1], .int .i64 state, .int .i64 kind] xnone w χ (fun w χ' v => v = .tuple #[.int .i64 ((object_Move o_ state kind).1), .int .i64 ((object_Move o_ state kind).2.1), .bool ((object_Move o_ state kind).2.2)])
theorem hb48 : hasBody Try.prog 48 = true := by kernel_rfl
/-- replevin/object.Move -/
theorem W48 (k70_69 : S70_69) (w0 : World) (χ0 : Nat → Nat) (o_ : Api_Object) (state : Int) (kind : Int) (a1 : Option Addr) (c1 : Nat) (Q : Int × Int × Bool → Prop) (hm : VC48 o_ state kind Q) (h1 : RS tApi_Row w0 χ0 a1 o_.Rows c1) :
    Ret Try.prog 48 #[.agg #[.int .i64 o_.States, .int .i64 o_.Kinds, .int .i64 o_.Init, .slice a1 o_.Rows.length c1], .int .i64 state, .int .i64 kind] xnone w0 χ0 (fun w χ' v => ∃ r, Q r ∧ v = .tuple #[.int .i64 r.1, .int .i64 r.2.1, .bool r.2.2]) := by
  unfold VC48 at hm
  replace hm := hm (h1.sm (by kernel_rfl))
  refine enter Try.func48 rfl (vals := [.agg #[.int .i64 o_.States, .int .i64 o_.Kinds, .int .i64 o_.Init, .slice a1 o_.Rows.length c1], .int .i64 state, .int .i64 kind]) (by kernel_rfl) ?_
  intro ρ a hS hO hM
  replace h1 := h1.m0 hM
  clear hM
  refine regM T hS (sp := []) (ks := [3, 4, 5]) (bs := [4, 5, 6]) (sy' := ⟨[(3, Pt 4 0), (4, Pt 5 0), (5, Pt 6 0)], [(4, (24, [I o_.States, I o_.Kinds, I o_.Init, V (.slice a1 o_.Rows.length c1)])), (5, (3, [I state])), (6, (3, [I kind]))]⟩) (by kernel_rfl) ?_
  intro ρ a w118 χ119 hS hE hr
  replace hO := hO.mv hE rfl rfl
  replace h1 := h1.mv hE rfl
  clear hE hr
  refine regP T hS (sp := []) (ks := [3, 9]) (bs := [4, 5, 6]) (sy' := ⟨[(3, Pt 4 0), (9, .f (.func 69) [] [.p 5 0, .p 6 0])], [(4, (24, [I o_.States, I o_.Kinds, I o_.Init, V (.slice a1 o_.Rows.length c1)])), (5, (3, [I state])), (6, (3, [I kind]))]⟩) (by kernel_rfl) ?_
  intro a hS
  refine regO ?_
  refine opsP T hS 3 (sp := []) (ks := [3, 13, 14]) (bs := [4, 5, 6]) (sy' := ⟨[(3, Pt 4 0), (13, V (.slice a1 o_.Rows.length c1)), (14, .f (.func 69) [] [.p 5 0, .p 6 0])], [(4, (24, [I o_.States, I o_.Kinds, I o_.Init, V (.slice a1 o_.Rows.length c1)])), (5, (3, [I state])), (6, (3, [I kind]))]⟩) (by kernel_rfl) ?_
  intro a hS
  refine op1 (callR hS (by kernel_rfl) (by kernel_rfl) hb70 (by kernel_rfl) (k70_69 _ _ o_.Rows state kind a1 c1 (ρ 5) 5 (ρ 6) 6 h1 (hS.cell (id := 5) (t := 3) (cs := [I state]) (by kernel_rfl)) (hS.cell (id := 6) (t := 3) (cs := [I kind]) (by kernel_rfl)) ⟨by decide, by decide⟩) ?_)
  intro v101 a w102 χ103 hE hp hS
  replace hO := hO.mv hE rfl rfl
  replace h1 := h1.mv hE rfl
  clear hE
  obtain ⟨hp, hc105, hc106⟩ := hp
  obtain ⟨r104, hr⟩ : ∃ r, slices_IndexFunc_api_Row_api_Row_object_Move_1 o_.Rows state kind = r := ⟨_, rfl⟩
  replace hm := hm r104 hr
  rw [hr] at hp
  clear hr
  subst hp
  replace hS := hS.addbox (id := 5) (t := 3) (cs := [I state]) (by kernel_rfl) hc105
  replace hS := hS.addbox (id := 6) (t := 3) (cs := [I kind]) (by kernel_rfl) hc106
  clear hc105 hc106
  refine endP T hS (sp := []) (ks := [3, 10]) (bs := [4]) (sy' := ⟨[(3, Pt 4 0), (10, I r104)], [(4, (24, [I o_.States, I o_.Kinds, I o_.Init, V (.slice a1 o_.Rows.length c1)]))]⟩) (by kernel_rfl) ?_
  intro a hS
  refine wseq ?_
  refine regP T hS (sp := []) (ks := [3, 10, 17]) (bs := [4]) (sy' := ⟨[(3, Pt 4 0), (10, I r104), (17, B (decide (r104 < 0)))], [(4, (24, [I o_.States, I o_.Kinds, I o_.Init, V (.slice a1 o_.Rows.length c1)]))]⟩) (by kernel_rfl) ?_
  intro a hS
  refine wcond hS (b := decide (r104 < 0)) (by kernel_rfl) (fun hb => ?_) (fun hb => ?_)
  · replace hm := hm.1 hb
    refine regP T hS (sp := []) (ks := [6, 7, 8]) (bs := []) (sy' := ⟨[(6, I 0), (7, I 0), (8, B false)], []⟩) (by kernel_rfl) ?_
    intro a hS
    refine wret ?_
    exact fin T hS hO (fun c => c) rfl (r := [.int .i64 0, .int .i64 0, .bool false]) (by kernel_rfl) (fun χ' hM hC => ⟨(0, 0, false), hm, rfl⟩)
  · replace hm := hm.2 hb
    refine wskip ?_
    refine drawnS [4] mixed hS ?_
    intro w107 hS hE hD hH
    replace hO := hO.mv hE rfl rfl
    replace h1 := h1.mv hE rfl
    clear hE
    refine take T [0, 2, 6, 8, 1, 7] [4] [19, 20, 25, 26] hS (by kernel_rfl) (by kernel_rfl) (by kernel_rfl) hH (listed' := #[true, true, true, false, false, false, true, true, true, false, false, false, false, false, false]) (fuel := 9) (sy' := ⟨[(19, V (.slice a1 o_.Rows.length c1)), (20, I r104), (25, V (.slice a1 o_.Rows.length c1)), (26, I r104)], [(4, (24, [I o_.States, I o_.Kinds, I o_.Init, V (.slice a1 o_.Rows.length c1)]))]⟩) (by kernel_rfl) (by rfl) ?_
    intro a hS
    obtain ⟨hq, hm⟩ := hm
    refine dindex (e := 102) (k := .i64) T 3 hS (by kernel_rfl) (by kernel_rfl) (by kernel_rfl) (by rfl) (by kernel_rfl) hH (by kernel_rfl) (by kernel_rfl) h1 (by kernel_rfl) (by kernel_rfl) hq.1 hq.2 ?_
    intro A108 a h109 hS
    clear hq
    have h109b := h109.here
    refine dfieldA (off := 2) (fsz := 1) (ft := 3) (TF := tI) (y := (gi o_.Rows r104).Next) 4 T hS (by kernel_rfl) (by kernel_rfl) (by kernel_rfl) (by rfl) (by kernel_rfl) hH (by kernel_rfl) h109 (by kernel_rfl) (by kernel_rfl) (by kernel_rfl) (fun cs h => Api_Row_f2 h) ?_
    intro A110 a h111 hbl hS
    have h111b := h109b
    rw [← hbl] at h111b
    clear hbl
    refine dload1 T 5 hS (by kernel_rfl) (by kernel_rfl) (by kernel_rfl) (by rfl) (by kernel_rfl) hH (by kernel_rfl) h111 h111b rfl (by kernel_rfl) ?_
    intro v112 a hv hS
    cases hv
    refine take T [12] [4] [6, 25, 26] hS (by kernel_rfl) (by kernel_rfl) (by kernel_rfl) hH (listed' := #[true, true, true, true, true, true, true, true, true, false, false, false, true, false, false]) (fuel := 5) (sy' := ⟨[(6, I ((gi o_.Rows r104).Next)), (25, V (.slice a1 o_.Rows.length c1)), (26, I r104)], [(4, (24, [I o_.States, I o_.Kinds, I o_.Init, V (.slice a1 o_.Rows.length c1)]))]⟩) (by kernel_rfl) (by rfl) ?_
    intro a hS
    obtain ⟨hq, hm⟩ := hm
    refine dindex (e := 102) (k := .i64) T 9 hS (by kernel_rfl) (by kernel_rfl) (by kernel_rfl) (by rfl) (by kernel_rfl) hH (by kernel_rfl) (by kernel_rfl) h1 (by kernel_rfl) (by kernel_rfl) hq.1 hq.2 ?_
    intro A113 a h114 hS
    clear hq
    have h114b := h114.here
    refine dfieldA (off := 3) (fsz := 1) (ft := 3) (TF := tI) (y := (gi o_.Rows r104).Result) 10 T hS (by kernel_rfl) (by kernel_rfl) (by kernel_rfl) (by rfl) (by kernel_rfl) hH (by kernel_rfl) h114 (by kernel_rfl) (by kernel_rfl) (by kernel_rfl) (fun cs h => Api_Row_f3 h) ?_
    intro A115 a h116 hbl hS
    have h116b := h114b
    rw [← hbl] at h116b
    clear hbl
    refine dload1 T 11 hS (by kernel_rfl) (by kernel_rfl) (by kernel_rfl) (by rfl) (by kernel_rfl) hH (by kernel_rfl) h116 h116b rfl (by kernel_rfl) ?_
    intro v117 a hv hS
    cases hv
    refine take T [13, 14] [4] [6, 7, 8] hS (by kernel_rfl) (by kernel_rfl) (by kernel_rfl) hH (listed' := #[true, true, true, true, true, true, true, true, true, true, true, true, true, true, true]) (fuel := 0) (sy' := ⟨[(6, I ((gi o_.Rows r104).Next)), (7, I ((gi o_.Rows r104).Result)), (8, B true)], [(4, (24, [I o_.States, I o_.Kinds, I o_.Init, V (.slice a1 o_.Rows.length c1)]))]⟩) (by kernel_rfl) (by rfl) ?_
    intro a hS
    refine drawnDone (by kernel_rfl) ?_
    clear hD hH
    replace hS := hS.sel [6, 7, 8] [] (sy' := ⟨[(6, I ((gi o_.Rows r104).Next)), (7, I ((gi o_.Rows r104).Result)), (8, B true)], []⟩) (by kernel_rfl)
    refine wret ?_
    exact fin T hS hO (fun c => c) rfl (r := [.int .i64 ((gi o_.Rows r104).Next), .int .i64 ((gi o_.Rows r104).Result), .bool true]) (by kernel_rfl) (fun χ' hM hC => ⟨((gi o_.Rows r104).Next, (gi o_.Rows r104).Result, true), hm, rfl⟩)
theorem C48 (k70_69 : S70_69) (v : ∀ (o_ : Api_Object) (state : Int) (kind : Int), VC48 o_ state kind (fun r => r = object_Move o_ state kind)) : S48 := by
  intro w χ o_ state kind a1 c1   h1
  refine (W48 k70_69 w χ o_ state kind a1 c1   _ (v o_ state kind) h1).mono ?_
  rintro _ _ _ _ ⟨r, rfl, h⟩
  exact h
def S46 : Prop := ∀ (w : World) (χ : Nat → Nat) (t_ : Run_table) (state : Int) (kind : Int) (a1 : Option Addr) (c1 : Nat), RS tApi_Row w χ a1 t_.o.Rows c1 → Ret Try.prog 46 #[.agg #[.int .i64 t_.o.States, .int .i64 t_.o.Kinds, .int .i64 t_.o.Init, .slice a1 t_.o.Rows.length c1], .int .i64 state, .int .i64 kind] xnone w χ (fun w χ' v => v = .tuple #[.int .i64 ((run_table_move t_ state kind).1), .int .i64 ((run_table_move t_ state kind).2.1), .bool ((run_table_move t_ state kind).2.2)])
theorem hb46 : hasBody Try.prog 46 = true := by kernel_rfl
/-- (replevin/run.table).move -/
theorem W46 (k48 : S48) (w0 : World) (χ0 : Nat → Nat) (t_ : Run_table) (state : Int) (kind : Int) (a1 : Option Addr) (c1 : Nat) (Q : Int × Int × Bool → Prop) (hm : VC46 t_ state kind Q) (h1 : RS tApi_Row w0 χ0 a1 t_.o.Rows c1) :
    Ret Try.prog 46 #[.agg #[.int .i64 t_.o.States, .int .i64 t_.o.Kinds, .int .i64 t_.o.Init, .slice a1 t_.o.Rows.length c1], .int .i64 state, .int .i64 kind] xnone w0 χ0 (fun w χ' v => ∃ r, Q r ∧ v = .tuple #[.int .i64 r.1, .int .i64 r.2.1, .bool r.2.2]) := by
  unfold VC46 at hm
  replace hm := hm (h1.sm (by kernel_rfl))
  refine enter Try.func46 rfl (vals := [.agg #[.int .i64 t_.o.States, .int .i64 t_.o.Kinds, .int .i64 t_.o.Init, .slice a1 t_.o.Rows.length c1], .int .i64 state, .int .i64 kind]) (by kernel_rfl) ?_
  intro ρ a hS hO hM
  replace h1 := h1.m0 hM
  clear hM
  refine regM T hS (sp := []) (ks := [1, 2, 3]) (bs := [4]) (sy' := ⟨[(1, I state), (2, I kind), (3, Pt 4 0)], [(4, (80, [I t_.o.States, I t_.o.Kinds, I t_.o.Init, V (.slice a1 t_.o.Rows.length c1)]))]⟩) (by kernel_rfl) ?_
  intro ρ a w105 χ106 hS hE hr
  replace hO := hO.mv hE rfl rfl
  replace h1 := h1.mv hE rfl
  clear hE hr
  refine regO ?_
  refine opsP T hS 4 (sp := []) (ks := [10, 11, 12]) (bs := []) (sy' := ⟨[(10, V (.agg #[.int .i64 t_.o.States, .int .i64 t_.o.Kinds, .int .i64 t_.o.Init, .slice a1 t_.o.Rows.length c1])), (11, I state), (12, I kind)], []⟩) (by kernel_rfl) ?_
  intro a hS
  refine op1 (call hS (by kernel_rfl) (by kernel_rfl) hb48 (by kernel_rfl) (fun _ _ => rfl) (k48 _ _ t_.o state kind a1 c1 h1) ?_)
  intro v101 a w102 χ103 hE hp hS
  replace hO := hO.mv hE rfl rfl
  replace h1 := h1.mv hE rfl
  clear hE
  obtain ⟨r104, hr⟩ : ∃ r, object_Move t_.o state kind = r := ⟨_, rfl⟩
  replace hm := hm r104 hr
  rw [hr] at hp
  clear hr
  subst hp
  refine endP T hS (sp := []) (ks := [6, 7, 8]) (bs := []) (sy' := ⟨[(6, I r104.1), (7, I r104.2.1), (8, B r104.2.2)], []⟩) (by kernel_rfl) ?_
  intro a hS
  refine wret ?_
  exact fin T hS hO (fun c => c) rfl (r := [.int .i64 r104.1, .int .i64 r104.2.1, .bool r104.2.2]) (by kernel_rfl) (fun χ' hM hC => ⟨(r104.1, r104.2.1, r104.2.2), hm, rfl⟩)
theorem C46 (k48 : S48) (v : ∀ (t_ : Run_table) (state : Int) (kind : Int), VC46 t_ state kind (fun r => r = run_table_move t_ state kind)) : S46 := by
  intro w χ t_ state kind a1 c1   h1
  refine (W46 k48 w χ t_ state kind a1 c1   _ (v t_ state kind) h1).mono ?_
  rintro _ _ _ _ ⟨r, rfl, h⟩
  exact h
def S17 : Prop := ∀ (w : World) (χ : Nat → Nat) (o_ : Api_Object) (state : Int) (kind : Int) (result : Int) (a1 : Option Addr) (c1 : Nat), RS tApi_Row w χ a1 o_.Rows c1 → Ret Try.prog 17 #[.agg #[.int .i64 o_.States, .int .i64 o_.Kinds, .int .i64 o_.Init, .slice a1 o_.Rows.length c1], .int .i64 state, .int .i64 kind, .int .i64 result] xnone w χ (fun w χ' v => v = .tuple #[.int .i64 ((run_Step o_ state kind result).1), .int .i64 ((run_Step o_ state kind result).2)])
theorem hb17 : hasBody Try.prog 17 = true := by kernel_rfl
/-- replevin/run.Step -/
theorem W17 (k46 : S46) (w0 : World) (χ0 : Nat → Nat) (o_ : Api_Object) (state : Int) (kind : Int) (result : Int) (a1 : Option Addr) (c1 : Nat) (Q : Int × Int → Prop) (hm : VC17 o_ state kind result Q) (h1 : RS tApi_Row w0 χ0 a1 o_.Rows c1) :
    Ret Try.prog 17 #[.agg #[.int .i64 o_.States, .int .i64 o_.Kinds, .int .i64 o_.Init, .slice a1 o_.Rows.length c1], .int .i64 state, .int .i64 kind, .int .i64 result] xnone w0 χ0 (fun w χ' v => ∃ r, Q r ∧ v = .tuple #[.int .i64 r.1, .int .i64 r.2]) := by
  unfold VC17 at hm
  replace hm := hm (h1.sm (by kernel_rfl))
  refine enter Try.func17 rfl (vals := [.agg #[.int .i64 o_.States, .int .i64 o_.Kinds, .int .i64 o_.Init, .slice a1 o_.Rows.length c1], .int .i64 state, .int .i64 kind, .int .i64 result]) (by kernel_rfl) ?_
  intro ρ a hS hO hM
  replace h1 := h1.m0 hM
  clear hM
  refine regM T hS (sp := []) (ks := [1, 2, 3, 4]) (bs := [5]) (sy' := ⟨[(1, I state), (2, I kind), (3, I result), (4, Pt 5 0)], [(5, (24, [I o_.States, I o_.Kinds, I o_.Init, V (.slice a1 o_.Rows.length c1)]))]⟩) (by kernel_rfl) ?_
  intro ρ a w105 χ106 hS hE hr
  replace hO := hO.mv hE rfl rfl
  replace h1 := h1.mv hE rfl
  clear hE hr
  refine wseq ?_
  refine regP T hS (sp := [15]) (ks := [1, 2, 3, 4, 20]) (bs := [5]) (sy' := ⟨[(1, I state), (2, I kind), (3, I result), (4, Pt 5 0), (20, B ((decide (state < 0)) || (decide (state ≥ o_.States))))], [(5, (24, [I o_.States, I o_.Kinds, I o_.Init, V (.slice a1 o_.Rows.length c1)]))]⟩) (by kernel_rfl) ?_
  intro a hS
  refine wcond hS (b := ((decide (state < 0)) || (decide (state ≥ o_.States)))) (by kernel_rfl) (fun hb => ?_) (fun hb => ?_)
  · replace hm := hm.1 hb
    refine regP T hS (sp := []) (ks := [8, 9]) (bs := []) (sy' := ⟨[(8, I 0), (9, I 30)], []⟩) (by kernel_rfl) ?_
    intro a hS
    refine wret ?_
    exact fin T hS hO (fun c => c) rfl (r := [.int .i64 0, .int .i64 30]) (by kernel_rfl) (fun χ' hM hC => ⟨(0, 30), hm, rfl⟩)
  · replace hm := hm.2 hb
    refine wskip ?_
    refine regP T hS (sp := []) (ks := [1, 2, 3, 10]) (bs := []) (sy' := ⟨[(1, I state), (2, I kind), (3, I result), (10, .f (.func 46) [.v (.agg #[.int .i64 o_.States, .int .i64 o_.Kinds, .int .i64 o_.Init, .slice a1 o_.Rows.length c1])] [])], []⟩) (by kernel_rfl) ?_
    intro a hS
    refine regO ?_
    refine opsP T hS 3 (sp := []) (ks := [3, 25, 26, 27]) (bs := []) (sy' := ⟨[(3, I result), (25, .f (.func 46) [.v (.agg #[.int .i64 o_.States, .int .i64 o_.Kinds, .int .i64 o_.Init, .slice a1 o_.Rows.length c1])] []), (26, I state), (27, I kind)], []⟩) (by kernel_rfl) ?_
    intro a hS
    refine op1 (callC (fi := [.v (.agg #[.int .i64 o_.States, .int .i64 o_.Kinds, .int .i64 o_.Init, .slice a1 o_.Rows.length c1])]) (cp := []) hS (by kernel_rfl) (by kernel_rfl) hb46 (by kernel_rfl) (by kernel_rfl) (fun _ _ => rfl) (k46 _ _ (⟨o_⟩ : Run_table) state kind a1 c1 h1) ?_)
    intro v101 a w102 χ103 hE hp hS
    replace hO := hO.mv hE rfl rfl
    replace h1 := h1.mv hE rfl
    clear hE
    obtain ⟨r104, hr⟩ : ∃ r, run_table_move (⟨o_⟩ : Run_table) state kind = r := ⟨_, rfl⟩
    replace hm := hm r104 hr
    rw [hr] at hp
    clear hr
    subst hp
    refine endP T hS (sp := []) (ks := [3, 8, 11, 12]) (bs := []) (sy' := ⟨[(3, I result), (8, I r104.1), (11, I r104.2.1), (12, B r104.2.2)], []⟩) (by kernel_rfl) ?_
    intro a hS
    refine wseq ?_
    refine regP T hS (sp := [34]) (ks := [8, 38]) (bs := []) (sy' := ⟨[(8, I r104.1), (38, B ((!r104.2.2) || (r104.2.1 != result)))], []⟩) (by kernel_rfl) ?_
    intro a hS
    refine wcond hS (b := ((!r104.2.2) || (r104.2.1 != result))) (by kernel_rfl) (fun hb => ?_) (fun hb => ?_)
    · replace hm := hm.1 hb
      refine regP T hS (sp := []) (ks := [8, 9]) (bs := []) (sy' := ⟨[(8, I 0), (9, I 40)], []⟩) (by kernel_rfl) ?_
      intro a hS
      refine wret ?_
      exact fin T hS hO (fun c => c) rfl (r := [.int .i64 0, .int .i64 40]) (by kernel_rfl) (fun χ' hM hC => ⟨(0, 40), hm, rfl⟩)
    · replace hm := hm.2 hb
      refine wskip ?_
      refine regP T hS (sp := []) (ks := [8, 9]) (bs := []) (sy' := ⟨[(8, I r104.1), (9, I 0)], []⟩) (by kernel_rfl) ?_
      intro a hS
      refine wret ?_
      exact fin T hS hO (fun c => c) rfl (r := [.int .i64 r104.1, .int .i64 0]) (by kernel_rfl) (fun χ' hM hC => ⟨(r104.1, 0), hm, rfl⟩)
theorem C17 (k46 : S46) (v : ∀ (o_ : Api_Object) (state : Int) (kind : Int) (result : Int), VC17 o_ state kind result (fun r => r = run_Step o_ state kind result)) : S17 := by
  intro w χ o_ state kind result a1 c1   h1
  refine (W17 k46 w χ o_ state kind result a1 c1   _ (v o_ state kind result) h1).mono ?_
  rintro _ _ _ _ ⟨r, rfl, h⟩
  exact h
def S84 : Prop := ∀ (w : World) (χ : Nat → Nat) (x_ : Int), Ret Try.prog 84 #[.int .i64 x_] xnone w χ (fun w χ' v => v = .bool (cmp_isNaN_int x_))
theorem hb84 : hasBody Try.prog 84 = true := by kernel_rfl
/-- cmp.isNaN[int] -/
theorem W84 (w0 : World) (χ0 : Nat → Nat) (x_ : Int) (Q : Bool → Prop) (hm : VC84 x_ Q) :
    Ret Try.prog 84 #[.int .i64 x_] xnone w0 χ0 (fun w χ' v => ∃ r, Q r ∧ v = .bool r) := by
  unfold VC84 at hm
  refine enter Try.func84 rfl (vals := [.int .i64 x_]) (by kernel_rfl) ?_
  intro ρ a hS hO hM
  clear hM
  refine regP T hS (sp := []) (ks := [0]) (bs := []) (sy' := ⟨[(0, I x_)], []⟩) (by kernel_rfl) ?_
  intro a hS
  refine regP T hS (sp := []) (ks := [2]) (bs := []) (sy' := ⟨[(2, B (x_ != x_))], []⟩) (by kernel_rfl) ?_
  intro a hS
  refine wret ?_
  exact fin T hS hO (fun c => c) rfl (r := [.bool (x_ != x_)]) (by kernel_rfl) (fun χ' hM hC => ⟨(x_ != x_), hm, rfl⟩)
theorem C84 (v : ∀ (x_ : Int), VC84 x_ (fun r => r = cmp_isNaN_int x_)) : S84 := by
  intro w χ x_    
  refine (W84 w χ x_    _ (v x_)).mono ?_
  rintro _ _ _ _ ⟨r, rfl, h⟩
  exact h
def S82 : Prop := ∀ (w : World) (χ : Nat → Nat) (x_ : Int) (y_ : Int), Ret Try.prog 82 #[.int .i64 x_, .int .i64 y_] xnone w χ (fun w χ' v => v = .int .i64 (cmp_Compare_int x_ y_))
theorem hb82 : hasBody Try.prog 82 = true := by kernel_rfl
/-- cmp.Compare[int] -/
theorem W82 (k84 : S84) (w0 : World) (χ0 : Nat → Nat) (x_ : Int) (y_ : Int) (Q : Int → Prop) (hm : VC82 x_ y_ Q) :
    Ret Try.prog 82 #[.int .i64 x_, .int .i64 y_] xnone w0 χ0 (fun w χ' v => ∃ r, Q r ∧ v = .int .i64 r) := by
  unfold VC82 at hm
  refine enter Try.func82 rfl (vals := [.int .i64 x_, .int .i64 y_]) (by kernel_rfl) ?_
  intro ρ a hS hO hM
  clear hM
  refine regP T hS (sp := []) (ks := [0, 1]) (bs := []) (sy' := ⟨[(0, I x_), (1, I y_)], []⟩) (by kernel_rfl) ?_
  intro a hS
  refine regO ?_
  refine opsP T hS 1 (sp := []) (ks := [0, 1, 7]) (bs := []) (sy' := ⟨[(0, I x_), (1, I y_), (7, I x_)], []⟩) (by kernel_rfl) ?_
  intro a hS
  refine op1 (call hS (by kernel_rfl) (by kernel_rfl) hb84 (by kernel_rfl) (fun _ _ => rfl) (k84 _ _ x_) ?_)
  intro v101 a w102 χ103 hE hp hS
  replace hO := hO.mv hE rfl rfl
  clear hE
  obtain ⟨r104, hr⟩ : ∃ r, cmp_isNaN_int x_ = r := ⟨_, rfl⟩
  replace hm := hm r104 hr
  rw [hr] at hp
  clear hr
  subst hp
  refine endP T hS (sp := []) (ks := [0, 1, 5]) (bs := []) (sy' := ⟨[(0, I x_), (1, I y_), (5, B r104)], []⟩) (by kernel_rfl) ?_
  intro a hS
  refine regO ?_
  refine opsP T hS 1 (sp := []) (ks := [0, 1, 5, 9]) (bs := []) (sy' := ⟨[(0, I x_), (1, I y_), (5, B r104), (9, I y_)], []⟩) (by kernel_rfl) ?_
  intro a hS
  refine op1 (call hS (by kernel_rfl) (by kernel_rfl) hb84 (by kernel_rfl) (fun _ _ => rfl) (k84 _ _ y_) ?_)
  intro v105 a w106 χ107 hE hp hS
  replace hO := hO.mv hE rfl rfl
  clear hE
  obtain ⟨r108, hr⟩ : ∃ r, cmp_isNaN_int y_ = r := ⟨_, rfl⟩
  replace hm := hm r108 hr
  rw [hr] at hp
  clear hr
  subst hp
  refine endP T hS (sp := []) (ks := [0, 1, 5, 6]) (bs := []) (sy' := ⟨[(0, I x_), (1, I y_), (5, B r104), (6, B r108)], []⟩) (by kernel_rfl) ?_
  intro a hS
  refine wseq ?_
  refine regP T hS (sp := []) (ks := [0, 1, 6, 11]) (bs := []) (sy' := ⟨[(0, I x_), (1, I y_), (6, B r108), (11, B r104)], []⟩) (by kernel_rfl) ?_
  intro a hS
  refine wcond hS (b := r104) (by kernel_rfl) (fun hb => ?_) (fun hb => ?_)
  · replace hm := hm.1 hb
    refine wseq ?_
    refine regP T hS (sp := []) (ks := [12]) (bs := []) (sy' := ⟨[(12, B r108)], []⟩) (by kernel_rfl) ?_
    intro a hS
    refine wcond hS (b := r108) (by kernel_rfl) (fun hb => ?_) (fun hb => ?_)
    · replace hm := hm.1 hb
      refine regP T hS (sp := []) (ks := [4]) (bs := []) (sy' := ⟨[(4, I 0)], []⟩) (by kernel_rfl) ?_
      intro a hS
      refine wret ?_
      exact fin T hS hO (fun c => c) rfl (r := [.int .i64 0]) (by kernel_rfl) (fun χ' hM hC => ⟨0, hm, rfl⟩)
    · replace hm := hm.2 hb
      refine wskip ?_
      refine regP T hS (sp := []) (ks := [4]) (bs := []) (sy' := ⟨[(4, I (-1))], []⟩) (by kernel_rfl) ?_
      intro a hS
      refine wret ?_
      exact fin T hS hO (fun c => c) rfl (r := [.int .i64 (-1)]) (by kernel_rfl) (fun χ' hM hC => ⟨(-1), hm, rfl⟩)
  · replace hm := hm.2 hb
    refine wskip ?_
    refine wseq ?_
    refine regP T hS (sp := []) (ks := [0, 1, 13]) (bs := []) (sy' := ⟨[(0, I x_), (1, I y_), (13, B r108)], []⟩) (by kernel_rfl) ?_
    intro a hS
    refine wcond hS (b := r108) (by kernel_rfl) (fun hb => ?_) (fun hb => ?_)
    · replace hm := hm.1 hb
      refine regP T hS (sp := []) (ks := [4]) (bs := []) (sy' := ⟨[(4, I 1)], []⟩) (by kernel_rfl) ?_
      intro a hS
      refine wret ?_
      exact fin T hS hO (fun c => c) rfl (r := [.int .i64 1]) (by kernel_rfl) (fun χ' hM hC => ⟨1, hm, rfl⟩)
    · replace hm := hm.2 hb
      refine wskip ?_
      refine wseq ?_
      refine regP T hS (sp := []) (ks := [0, 1, 16]) (bs := []) (sy' := ⟨[(0, I x_), (1, I y_), (16, B (decide (x_ < y_)))], []⟩) (by kernel_rfl) ?_
      intro a hS
      refine wcond hS (b := decide (x_ < y_)) (by kernel_rfl) (fun hb => ?_) (fun hb => ?_)
      · replace hm := hm.1 hb
        refine regP T hS (sp := []) (ks := [4]) (bs := []) (sy' := ⟨[(4, I (-1))], []⟩) (by kernel_rfl) ?_
        intro a hS
        refine wret ?_
        exact fin T hS hO (fun c => c) rfl (r := [.int .i64 (-1)]) (by kernel_rfl) (fun χ' hM hC => ⟨(-1), hm, rfl⟩)
      · replace hm := hm.2 hb
        refine wskip ?_
        refine wseq ?_
        refine regP T hS (sp := []) (ks := [19]) (bs := []) (sy' := ⟨[(19, B (decide (x_ > y_)))], []⟩) (by kernel_rfl) ?_
        intro a hS
        refine wcond hS (b := decide (x_ > y_)) (by kernel_rfl) (fun hb => ?_) (fun hb => ?_)
        · replace hm := hm.1 hb
          refine regP T hS (sp := []) (ks := [4]) (bs := []) (sy' := ⟨[(4, I 1)], []⟩) (by kernel_rfl) ?_
          intro a hS
          refine wret ?_
          exact fin T hS hO (fun c => c) rfl (r := [.int .i64 1]) (by kernel_rfl) (fun χ' hM hC => ⟨1, hm, rfl⟩)
        · replace hm := hm.2 hb
          refine wskip ?_
          refine regP T hS (sp := []) (ks := [4]) (bs := []) (sy' := ⟨[(4, I 0)], []⟩) (by kernel_rfl) ?_
          intro a hS
          refine wret ?_
          exact fin T hS hO (fun c => c) rfl (r := [.int .i64 0]) (by kernel_rfl) (fun χ' hM hC => ⟨0, hm, rfl⟩)
theorem C82 (k84 : S84) (v : ∀ (x_ : Int) (y_ : Int), VC82 x_ y_ (fun r => r = cmp_Compare_int x_ y_)) : S82 := by
  intro w χ x_ y_    
  refine (W82 k84 w χ x_ y_    _ (v x_ y_)).mono ?_
  rintro _ _ _ _ ⟨r, rfl, h⟩
  exact h
def S81 : Prop := ∀ (w : World) (χ : Nat → Nat) (vals : List Int) (a1 : Option Addr) (c1 : Nat), RS tI w χ a1 vals c1 → Ret Try.prog 81 #[.slice a1 vals.length c1] xnone w χ (fun w χ' v => v = .int .i64 (cmp_Or_int vals))
theorem hb81 : hasBody Try.prog 81 = true := by kernel_rfl
/-- cmp.Or[int] -/
theorem W81 (w0 : World) (χ0 : Nat → Nat) (vals : List Int) (a1 : Option Addr) (c1 : Nat) (Q : Int → Prop) (hm : VC81 vals Q) (h1 : RS tI w0 χ0 a1 vals c1) :
    Ret Try.prog 81 #[.slice a1 vals.length c1] xnone w0 χ0 (fun w χ' v => ∃ r, Q r ∧ v = .int .i64 r) := by
  unfold VC81 at hm
  replace hm := hm (h1.sm (by kernel_rfl))
  refine enter Try.func81 rfl (vals := [.slice a1 vals.length c1]) (by kernel_rfl) ?_
  intro ρ a hS hO hM
  replace h1 := h1.m0 hM
  clear hM
  refine regP T hS (sp := []) (ks := [0]) (bs := []) (sy' := ⟨[(0, V (.slice a1 vals.length c1))], []⟩) (by kernel_rfl) ?_
  intro a hS
  refine regP T hS (sp := []) (ks := [0, 3]) (bs := []) (sy' := ⟨[(0, V (.slice a1 vals.length c1)), (3, I 0)], []⟩) (by kernel_rfl) ?_
  intro a hS
  refine wcut (fun a w => ∃ (ρ : Nat → Nat) (χ : Nat → Nat), VC81_J1 Q ∧ St Try.f81.ntmps ⟨[(3, I 0)], []⟩ ρ a w χ ∧ Old w0 χ0 w χ) ?_ ?_
  · refine regP T hS (sp := []) (ks := [3, 6, 7, 8]) (bs := []) (sy' := ⟨[(3, I 0), (6, V (.slice a1 vals.length c1)), (7, I ((vals.length : Nat) : Int)), (8, I 0)], []⟩) (by kernel_rfl) ?_
    intro a hS
    refine wblock ?_
    obtain ⟨I1, μ1, hm0, hm⟩ := hm
    refine wloop (σ := Int) (fun s a w => ∃ (ρ : Nat → Nat) (χ : Nat → Nat), I1 s ∧ St Try.f81.ntmps ⟨[(3, I 0), (6, V (.slice a1 vals.length c1)), (7, I ((vals.length : Nat) : Int)), (8, I s)], []⟩ ρ a w χ ∧ Old w0 χ0 w χ ∧ RS tI w χ a1 vals c1) (fun s => μ1 s) (0) ?_ ?_
    · exact ⟨ρ, _, hm0, hS.sel [3, 6, 7, 8] [] (by kernel_rfl), hO, h1⟩
    · rintro x_102 a w107 ⟨ρ, χ106, hI, hS, hO, h101⟩
      replace hm := hm x_102 hI
      clear hI hm0
      refine regP T hS (sp := []) (ks := [3, 6, 7, 8, 9]) (bs := []) (sy' := ⟨[(3, I 0), (6, V (.slice a1 vals.length c1)), (7, I ((vals.length : Nat) : Int)), (8, I x_102), (9, B (decide (x_102 < ((vals.length : Nat) : Int))))], []⟩) (by kernel_rfl) ?_
      intro a hS
      refine wseq ?_
      refine wcond hS (b := decide (x_102 < ((vals.length : Nat) : Int))) (by kernel_rfl) (fun hb => ?_) (fun hb => ?_)
      · replace hm := hm.1 hb
        refine wskip ?_
        refine wseq ?_
        refine wblock ?_
        refine regO ?_
        obtain ⟨hq, hm⟩ := hm
        refine op1 (index (e := 3) (k := .i64) T hS (by kernel_rfl) (by kernel_rfl) (by kernel_rfl) (by kernel_rfl) h101 (by kernel_rfl) (by kernel_rfl) hq.1 hq.2 ?_)
        intro A103 a h104 hS
        clear hq
        refine op1 (load1 T hS (by kernel_rfl) (by kernel_rfl) (by kernel_rfl) h104 rfl (by kernel_rfl) ?_)
        intro v105 a hv hS
        cases hv
        refine endP T hS (sp := []) (ks := [3, 5, 6, 7, 8]) (bs := []) (sy' := ⟨[(3, I 0), (5, I (gi vals x_102)), (6, V (.slice a1 vals.length c1)), (7, I ((vals.length : Nat) : Int)), (8, I x_102)], []⟩) (by kernel_rfl) ?_
        intro a hS
        refine regP T hS (sp := []) (ks := [3, 5, 6, 7, 8, 14]) (bs := []) (sy' := ⟨[(3, I 0), (5, I (gi vals x_102)), (6, V (.slice a1 vals.length c1)), (7, I ((vals.length : Nat) : Int)), (8, I x_102), (14, B ((gi vals x_102) != 0))], []⟩) (by kernel_rfl) ?_
        intro a hS
        refine wcond hS (b := ((gi vals x_102) != 0)) (by kernel_rfl) (fun hb => ?_) (fun hb => ?_)
        · replace hm := hm.1 hb
          refine regP T hS (sp := []) (ks := [2]) (bs := []) (sy' := ⟨[(2, I (gi vals x_102))], []⟩) (by kernel_rfl) ?_
          intro a hS
          refine wret ?_
          exact fin T hS hO (fun c => c) rfl (r := [.int .i64 (gi vals x_102)]) (by kernel_rfl) (fun χ' hM hC => ⟨(gi vals x_102), hm, rfl⟩)
        · replace hm := hm.2 hb
          refine wskip ?_
          refine region (endP T hS (sp := []) (ks := [3, 6, 7, 8]) (bs := []) (sy' := ⟨[(3, I 0), (6, V (.slice a1 vals.length c1)), (7, I ((vals.length : Nat) : Int)), (8, I (IntKind.i64.wrap (x_102 + 1)))], []⟩) (by kernel_rfl) ?_)
          intro a hS
          exact ⟨IntKind.i64.wrap (x_102 + 1), ⟨ρ, _, hm.1, hS.sel [3, 6, 7, 8] [] (by kernel_rfl), hO, h101⟩, hm.2⟩
      · replace hm := hm.2 hb
        refine wexit (by rfl) ?_
        exact ⟨ρ, _, hm, hS.sel [3] [] (by kernel_rfl), hO⟩
  · rintro a w109 ⟨ρ, χ108, hm, hS, hO⟩
    unfold VC81_J1 at hm
    refine regP T hS (sp := []) (ks := [2]) (bs := []) (sy' := ⟨[(2, I 0)], []⟩) (by kernel_rfl) ?_
    intro a hS
    refine wret ?_
    exact fin T hS hO (fun c => c) rfl (r := [.int .i64 0]) (by kernel_rfl) (fun χ' hM hC => ⟨0, hm, rfl⟩)
theorem C81 (v : ∀ (vals : List Int), VC81 vals (fun r => r = cmp_Or_int vals)) : S81 := by
  intro w χ vals a1 c1   h1
  refine (W81 w χ vals a1 c1   _ (v vals) h1).mono ?_
  rintro _ _ _ _ ⟨r, rfl, h⟩
  exact h
def S72 : Prop := ∀ (w : World) (χ : Nat → Nat) (a_ : Api_Row) (b_ : Api_Row), Ret Try.prog 72 #[.agg #[.int .i64 a_.State, .int .i64 a_.Kind, .int .i64 a_.Next, .int .i64 a_.Result], .agg #[.int .i64 b_.State, .int .i64 b_.Kind, .int .i64 b_.Next, .int .i64 b_.Result]] xnone w χ (fun w χ' v => v = .int .i64 (object_place a_ b_))
theorem hb72 : hasBody Try.prog 72 = true := by kernel_rfl
/-- replevin/object.place -/
theorem W72 (k81 : S81) (k82 : S82) (w0 : World) (χ0 : Nat → Nat) (a_ : Api_Row) (b_ : Api_Row) (Q : Int → Prop) (hm : VC72 a_ b_ Q) :
    Ret Try.prog 72 #[.agg #[.int .i64 a_.State, .int .i64 a_.Kind, .int .i64 a_.Next, .int .i64 a_.Result], .agg #[.int .i64 b_.State, .int .i64 b_.Kind, .int .i64 b_.Next, .int .i64 b_.Result]] xnone w0 χ0 (fun w χ' v => ∃ r, Q r ∧ v = .int .i64 r) := by
  unfold VC72 at hm
  refine enter Try.func72 rfl (vals := [.agg #[.int .i64 a_.State, .int .i64 a_.Kind, .int .i64 a_.Next, .int .i64 a_.Result], .agg #[.int .i64 b_.State, .int .i64 b_.Kind, .int .i64 b_.Next, .int .i64 b_.Result]]) (by kernel_rfl) ?_
  intro ρ a hS hO hM
  clear hM
  refine regM T hS (sp := []) (ks := [2, 3]) (bs := [3, 4]) (sy' := ⟨[(2, Pt 3 0), (3, Pt 4 0)], [(3, (102, [I a_.State, I a_.Kind, I a_.Next, I a_.Result])), (4, (102, [I b_.State, I b_.Kind, I b_.Next, I b_.Result]))]⟩) (by kernel_rfl) ?_
  intro ρ a w118 χ119 hS hE hr
  replace hO := hO.mv hE rfl rfl
  clear hE hr
  refine drawnS [3, 4] mixed hS ?_
  intro w101 hS hE hD hH
  replace hO := hO.mv hE rfl rfl
  clear hE
  refine take T [0, 2, 5, 7, 1, 3, 6, 8] [3, 4] [6, 8, 11, 13] hS (by kernel_rfl) (by kernel_rfl) (by kernel_rfl) hH (listed' := #[true, true, true, true, false, true, true, true, true, false, false, false, false]) (fuel := 5) (sy' := ⟨[(6, I a_.State), (8, I b_.State), (11, I a_.Kind), (13, I b_.Kind)], [(3, (102, [I a_.State, I a_.Kind, I a_.Next, I a_.Result])), (4, (102, [I b_.State, I b_.Kind, I b_.Next, I b_.Result]))]⟩) (by kernel_rfl) (by rfl) ?_
  intro a hS
  refine only 4 (by kernel_rfl) (by rfl) (call hS (by kernel_rfl) (by kernel_rfl) hb82 (by kernel_rfl) (fun _ _ => rfl) (k82 _ _ a_.State b_.State) ?_)
  intro v102 a w103 χ104 hE hp hS
  replace hO := hO.mv hE rfl rfl
  replace hD := hD.ev hE rfl
  clear hE
  obtain ⟨r105, hr⟩ : ∃ r, cmp_Compare_int a_.State b_.State = r := ⟨_, rfl⟩
  replace hm := hm r105 hr
  rw [hr] at hp
  clear hr
  subst hp
  replace hS := hS.sel [6, 8, 11, 13, 9] [3, 4] (sy' := ⟨[(6, I a_.State), (8, I b_.State), (11, I a_.Kind), (13, I b_.Kind), (9, I r105)], [(3, (102, [I a_.State, I a_.Kind, I a_.Next, I a_.Result])), (4, (102, [I b_.State, I b_.Kind, I b_.Next, I b_.Result]))]⟩) (by kernel_rfl)
  refine andH (Hold.of hS (bks := [3, 4]) (by kernel_rfl) hD) ?_
  intro hH
  refine only 9 (by kernel_rfl) (by rfl) (call hS (by kernel_rfl) (by kernel_rfl) hb82 (by kernel_rfl) (fun _ _ => rfl) (k82 _ _ a_.Kind b_.Kind) ?_)
  intro v106 a w107 χ108 hE hp hS
  replace hO := hO.mv hE rfl rfl
  replace hD := hD.ev hE rfl
  clear hE
  obtain ⟨r109, hr⟩ : ∃ r, cmp_Compare_int a_.Kind b_.Kind = r := ⟨_, rfl⟩
  replace hm := hm r109 hr
  rw [hr] at hp
  clear hr
  subst hp
  replace hS := hS.sel [6, 8, 11, 13, 9, 14] [3, 4] (sy' := ⟨[(6, I a_.State), (8, I b_.State), (11, I a_.Kind), (13, I b_.Kind), (9, I r105), (14, I r109)], [(3, (102, [I a_.State, I a_.Kind, I a_.Next, I a_.Result])), (4, (102, [I b_.State, I b_.Kind, I b_.Next, I b_.Result]))]⟩) (by kernel_rfl)
  refine andH (Hold.of hS (bks := [3, 4]) (by kernel_rfl) hD) ?_
  intro hH
  refine only 10 (by kernel_rfl) (by rfl) (lit (E := 3) (col := 0) (T := tI) (vals := [.int .i64 r105, .int .i64 r109]) (ys := [r105, r109]) T hS (by kernel_rfl) (by kernel_rfl) (by kernel_rfl) (by kernel_rfl) (by exact ⟨rfl, rfl, trivial⟩) rfl (by kernel_rfl) (by kernel_rfl) (by kernel_rfl) (by kernel_rfl) ?_)
  intro b110 a w111 χ112 hE h113 hN hS
  clear hN
  replace hO := hO.mv hE rfl rfl
  replace hD := hD.ev hE rfl
  clear hE
  replace h113 := h113.rs0
  refine andH (Hold.of hS (bks := [3, 4]) (by kernel_rfl) hD) ?_
  intro hH
  refine only 11 (by kernel_rfl) (by rfl) (call hS (by kernel_rfl) (by kernel_rfl) hb81 (by kernel_rfl) (fun _ _ => rfl) (k81 _ _ [r105, r109] (some ⟨b110, 0, none⟩) 2 h113) ?_)
  intro v114 a w115 χ116 hE hp hS
  replace hO := hO.mv hE rfl rfl
  replace hD := hD.ev hE rfl
  replace h113 := h113.mv hE rfl
  clear hE
  obtain ⟨r117, hr⟩ : ∃ r, cmp_Or_int [r105, r109] = r := ⟨_, rfl⟩
  replace hm := hm r117 hr
  rw [hr] at hp
  clear hr
  subst hp
  replace hS := hS.sel [6, 8, 11, 13, 9, 14, 15, 16] [3, 4] (sy' := ⟨[(6, I a_.State), (8, I b_.State), (11, I a_.Kind), (13, I b_.Kind), (9, I r105), (14, I r109), (15, V (.slice (some ⟨b110, 0, none⟩) [r105, r109].length 2)), (16, I r117)], [(3, (102, [I a_.State, I a_.Kind, I a_.Next, I a_.Result])), (4, (102, [I b_.State, I b_.Kind, I b_.Next, I b_.Result]))]⟩) (by kernel_rfl)
  refine andH (Hold.of hS (bks := [3, 4]) (by kernel_rfl) hD) ?_
  intro hH
  refine take T [12] [3, 4] [4] hS (by kernel_rfl) (by kernel_rfl) (by kernel_rfl) hH (listed' := #[true, true, true, true, true, true, true, true, true, true, true, true, true]) (fuel := 0) (sy' := ⟨[(4, I r117)], [(3, (102, [I a_.State, I a_.Kind, I a_.Next, I a_.Result])), (4, (102, [I b_.State, I b_.Kind, I b_.Next, I b_.Result]))]⟩) (by kernel_rfl) (by rfl) ?_
  intro a hS
  refine drawnDone (by kernel_rfl) ?_
  clear hD hH
  replace hS := hS.sel [4] [] (sy' := ⟨[(4, I r117)], []⟩) (by kernel_rfl)
  refine wret ?_
  exact fin T hS hO (fun c => c) rfl (r := [.int .i64 r117]) (by kernel_rfl) (fun χ' hM hC => ⟨r117, hm, rfl⟩)
theorem C72 (k81 : S81) (k82 : S82) (v : ∀ (a_ : Api_Row) (b_ : Api_Row), VC72 a_ b_ (fun r => r = object_place a_ b_)) : S72 := by
  intro w χ a_ b_    
  refine (W72 k81 k82 w χ a_ b_    _ (v a_ b_)).mono ?_
  rintro _ _ _ _ ⟨r, rfl, h⟩
  exact h
def S54 : Prop := ∀ (w : World) (χ : Nat → Nat) (n_ : Int) (top : Int), Ret Try.prog 54 #[.int .i64 n_, .int .i64 top] xnone w χ (fun w χ' v => v = .bool (object_within n_ top))
theorem hb54 : hasBody Try.prog 54 = true := by kernel_rfl
/-- replevin/object.within -/
theorem W54 (w0 : World) (χ0 : Nat → Nat) (n_ : Int) (top : Int) (Q : Bool → Prop) (hm : VC54 n_ top Q) :
    Ret Try.prog 54 #[.int .i64 n_, .int .i64 top] xnone w0 χ0 (fun w χ' v => ∃ r, Q r ∧ v = .bool r) := by
  unfold VC54 at hm
  refine enter Try.func54 rfl (vals := [.int .i64 n_, .int .i64 top]) (by kernel_rfl) ?_
  intro ρ a hS hO hM
  clear hM
  refine regP T hS (sp := []) (ks := [0, 1]) (bs := []) (sy' := ⟨[(0, I n_), (1, I top)], []⟩) (by kernel_rfl) ?_
  intro a hS
  refine regP T hS (sp := [7]) (ks := [4]) (bs := []) (sy' := ⟨[(4, B ((decide (n_ ≥ 0)) && (decide (n_ < top))))], []⟩) (by kernel_rfl) ?_
  intro a hS
  refine wret ?_
  exact fin T hS hO (fun c => c) rfl (r := [.bool ((decide (n_ ≥ 0)) && (decide (n_ < top)))]) (by kernel_rfl) (fun χ' hM hC => ⟨((decide (n_ ≥ 0)) && (decide (n_ < top))), hm, rfl⟩)
theorem C54 (v : ∀ (n_ : Int) (top : Int), VC54 n_ top (fun r => r = object_within n_ top)) : S54 := by
  intro w χ n_ top    
  refine (W54 w χ n_ top    _ (v n_ top)).mono ?_
  rintro _ _ _ _ ⟨r, rfl, h⟩
  exact h
def S55 : Prop := ∀ (w : World) (χ : Nat → Nat) (o_ : Api_Object) (i_ : Int) (a1 : Option Addr) (c1 : Nat), preRow o_ i_ → RS tApi_Row w χ a1 o_.Rows c1 → Ret Try.prog 55 #[.agg #[.int .i64 o_.States, .int .i64 o_.Kinds, .int .i64 o_.Init, .slice a1 o_.Rows.length c1], .int .i64 i_] xnone w χ (fun w χ' v => v = .int .i64 (object_row o_ i_))
theorem hb55 : hasBody Try.prog 55 = true := by kernel_rfl
/-- replevin/object.row -/
theorem W55 (k54 : S54) (k72 : S72) (w0 : World) (χ0 : Nat → Nat) (o_ : Api_Object) (i_ : Int) (a1 : Option Addr) (c1 : Nat) (Q : Int → Prop) (hm : VC55 o_ i_ Q) (h1 : RS tApi_Row w0 χ0 a1 o_.Rows c1) :
    Ret Try.prog 55 #[.agg #[.int .i64 o_.States, .int .i64 o_.Kinds, .int .i64 o_.Init, .slice a1 o_.Rows.length c1], .int .i64 i_] xnone w0 χ0 (fun w χ' v => ∃ r, Q r ∧ v = .int .i64 r) := by
  unfold VC55 at hm
  replace hm := hm (h1.sm (by kernel_rfl))
  refine enter Try.func55 rfl (vals := [.agg #[.int .i64 o_.States, .int .i64 o_.Kinds, .int .i64 o_.Init, .slice a1 o_.Rows.length c1], .int .i64 i_]) (by kernel_rfl) ?_
  intro ρ a hS hO hM
  replace h1 := h1.m0 hM
  clear hM
  refine regM T hS (sp := []) (ks := [1, 2]) (bs := [3]) (sy' := ⟨[(1, I i_), (2, Pt 3 0)], [(3, (24, [I o_.States, I o_.Kinds, I o_.Init, V (.slice a1 o_.Rows.length c1)]))]⟩) (by kernel_rfl) ?_
  intro ρ a w137 χ138 hS hE hr
  replace hO := hO.mv hE rfl rfl
  replace h1 := h1.mv hE rfl
  clear hE hr
  refine regO ?_
  refine opsP T hS 3 (sp := []) (ks := [1, 2, 7, 8]) (bs := [3]) (sy' := ⟨[(1, I i_), (2, Pt 3 0), (7, V (.slice a1 o_.Rows.length c1)), (8, I i_)], [(3, (24, [I o_.States, I o_.Kinds, I o_.Init, V (.slice a1 o_.Rows.length c1)]))]⟩) (by kernel_rfl) ?_
  intro a hS
  obtain ⟨hq, hm⟩ := hm
  refine op1 (index (e := 102) (k := .i64) T hS (by kernel_rfl) (by kernel_rfl) (by kernel_rfl) (by kernel_rfl) h1 (by kernel_rfl) (by kernel_rfl) hq.1 hq.2 ?_)
  intro A101 a h102 hS
  clear hq
  refine op1 (loadA T hS (by kernel_rfl) (by kernel_rfl) (by kernel_rfl) h102 (by kernel_rfl) (by kernel_rfl) ?_)
  intro v103 a hv hS
  subst hv
  refine endM T hS (sp := []) (ks := [1, 2, 5]) (bs := [3, 6]) (sy' := ⟨[(1, I i_), (2, Pt 3 0), (5, Pt 6 0)], [(3, (24, [I o_.States, I o_.Kinds, I o_.Init, V (.slice a1 o_.Rows.length c1)])), (6, (102, [I ((gi o_.Rows i_).State), I ((gi o_.Rows i_).Kind), I ((gi o_.Rows i_).Next), I ((gi o_.Rows i_).Result)]))]⟩) (by kernel_rfl) ?_
  intro ρ a w135 χ136 hS hE hr
  replace hO := hO.mv hE rfl rfl
  replace h1 := h1.mv hE rfl
  clear hE hr
  refine wseq ?_
  refine wblock ?_
  refine wcut (fun a w => ∃ (ρ : Nat → Nat) (χ : Nat → Nat) (x_104 : Bool), VC55_J1 o_ i_ Q x_104 ∧ St Try.f55.ntmps ⟨[(1, I i_), (2, Pt 3 0), (5, Pt 6 0), (11, B x_104)], [(3, (24, [I o_.States, I o_.Kinds, I o_.Init, V (.slice a1 o_.Rows.length c1)])), (6, (102, [I ((gi o_.Rows i_).State), I ((gi o_.Rows i_).Kind), I ((gi o_.Rows i_).Next), I ((gi o_.Rows i_).Result)]))]⟩ ρ a w χ ∧ Old w0 χ0 w χ ∧ RS tApi_Row w χ a1 o_.Rows c1) ?_ ?_
  · refine region ?_
    refine opsP T hS 4 (sp := []) (ks := [1, 2, 5, 13, 15]) (bs := [3, 6]) (sy' := ⟨[(1, I i_), (2, Pt 3 0), (5, Pt 6 0), (13, I ((gi o_.Rows i_).State)), (15, I o_.States)], [(3, (24, [I o_.States, I o_.Kinds, I o_.Init, V (.slice a1 o_.Rows.length c1)])), (6, (102, [I ((gi o_.Rows i_).State), I ((gi o_.Rows i_).Kind), I ((gi o_.Rows i_).Next), I ((gi o_.Rows i_).Result)]))]⟩) (by kernel_rfl) ?_
    intro a hS
    refine op1 (call hS (by kernel_rfl) (by kernel_rfl) hb54 (by kernel_rfl) (fun _ _ => rfl) (k54 _ _ ((gi o_.Rows i_).State) o_.States) ?_)
    intro v125 a w126 χ127 hE hp hS
    replace hO := hO.mv hE rfl rfl
    replace h1 := h1.mv hE rfl
    clear hE
    obtain ⟨r128, hr⟩ : ∃ r, object_within ((gi o_.Rows i_).State) o_.States = r := ⟨_, rfl⟩
    replace hm := hm r128 hr
    rw [hr] at hp
    clear hr
    subst hp
    refine opsP T hS 2 (sp := []) (ks := [1, 2, 5, 18]) (bs := [3, 6]) (sy' := ⟨[(1, I i_), (2, Pt 3 0), (5, Pt 6 0), (18, B (!r128))], [(3, (24, [I o_.States, I o_.Kinds, I o_.Init, V (.slice a1 o_.Rows.length c1)])), (6, (102, [I ((gi o_.Rows i_).State), I ((gi o_.Rows i_).Kind), I ((gi o_.Rows i_).Next), I ((gi o_.Rows i_).Result)]))]⟩) (by kernel_rfl) ?_
    intro a hS
    rcases Bool.eq_false_or_eq_true (!r128) with hb | hb
    · replace hS := hS.lit (t := 18) (by kernel_rfl) hb
      replace hm := hm.1 hb
      refine endP T hS (sp := []) (ks := [1, 2, 5, 11]) (bs := [3, 6]) (sy' := ⟨[(1, I i_), (2, Pt 3 0), (5, Pt 6 0), (11, B true)], [(3, (24, [I o_.States, I o_.Kinds, I o_.Init, V (.slice a1 o_.Rows.length c1)])), (6, (102, [I ((gi o_.Rows i_).State), I ((gi o_.Rows i_).Kind), I ((gi o_.Rows i_).Next), I ((gi o_.Rows i_).Result)]))]⟩) (by kernel_rfl) ?_
      intro a hS
      exact ⟨ρ, _, true, hm, hS.sel [1, 2, 5, 11] [3, 6] (by kernel_rfl), hO, h1⟩
    · replace hS := hS.lit (t := 18) (by kernel_rfl) hb
      replace hm := hm.2 hb
      refine opsP T hS 4 (sp := []) (ks := [1, 2, 5, 18, 20, 22]) (bs := [3, 6]) (sy' := ⟨[(1, I i_), (2, Pt 3 0), (5, Pt 6 0), (18, B false), (20, I ((gi o_.Rows i_).Next)), (22, I o_.States)], [(3, (24, [I o_.States, I o_.Kinds, I o_.Init, V (.slice a1 o_.Rows.length c1)])), (6, (102, [I ((gi o_.Rows i_).State), I ((gi o_.Rows i_).Kind), I ((gi o_.Rows i_).Next), I ((gi o_.Rows i_).Result)]))]⟩) (by kernel_rfl) ?_
      intro a hS
      refine op1 (call hS (by kernel_rfl) (by kernel_rfl) hb54 (by kernel_rfl) (fun _ _ => rfl) (k54 _ _ ((gi o_.Rows i_).Next) o_.States) ?_)
      intro v129 a w130 χ131 hE hp hS
      replace hO := hO.mv hE rfl rfl
      replace h1 := h1.mv hE rfl
      clear hE
      obtain ⟨r132, hr⟩ : ∃ r, object_within ((gi o_.Rows i_).Next) o_.States = r := ⟨_, rfl⟩
      replace hm := hm r132 hr
      rw [hr] at hp
      clear hr
      subst hp
      refine endP T hS (sp := []) (ks := [1, 2, 5, 11]) (bs := [3, 6]) (sy' := ⟨[(1, I i_), (2, Pt 3 0), (5, Pt 6 0), (11, B (!r132))], [(3, (24, [I o_.States, I o_.Kinds, I o_.Init, V (.slice a1 o_.Rows.length c1)])), (6, (102, [I ((gi o_.Rows i_).State), I ((gi o_.Rows i_).Kind), I ((gi o_.Rows i_).Next), I ((gi o_.Rows i_).Result)]))]⟩) (by kernel_rfl) ?_
      intro a hS
      exact ⟨ρ, _, (!r132), hm, hS.sel [1, 2, 5, 11] [3, 6] (by kernel_rfl), hO, h1⟩
  · rintro a w134 ⟨ρ, χ133, x_104, hm, hS, hO, h105⟩
    unfold VC55_J1 at hm
    refine wcond hS (b := x_104) (by kernel_rfl) (fun hb => ?_) (fun hb => ?_)
    · replace hm := hm.1 hb
      refine regP T hS (sp := []) (ks := [4]) (bs := []) (sy' := ⟨[(4, I 30)], []⟩) (by kernel_rfl) ?_
      intro a hS
      refine wret ?_
      exact fin T hS hO (fun c => c) rfl (r := [.int .i64 30]) (by kernel_rfl) (fun χ' hM hC => ⟨30, hm, rfl⟩)
    · replace hm := hm.2 hb
      refine regO ?_
      refine opsP T hS 4 (sp := []) (ks := [1, 2, 5, 28, 30]) (bs := [3, 6]) (sy' := ⟨[(1, I i_), (2, Pt 3 0), (5, Pt 6 0), (28, I ((gi o_.Rows i_).Kind)), (30, I o_.Kinds)], [(3, (24, [I o_.States, I o_.Kinds, I o_.Init, V (.slice a1 o_.Rows.length c1)])), (6, (102, [I ((gi o_.Rows i_).State), I ((gi o_.Rows i_).Kind), I ((gi o_.Rows i_).Next), I ((gi o_.Rows i_).Result)]))]⟩) (by kernel_rfl) ?_
      intro a hS
      refine op1 (call hS (by kernel_rfl) (by kernel_rfl) hb54 (by kernel_rfl) (fun _ _ => rfl) (k54 _ _ ((gi o_.Rows i_).Kind) o_.Kinds) ?_)
      intro v106 a w107 χ108 hE hp hS
      replace hO := hO.mv hE rfl rfl
      replace h105 := h105.mv hE rfl
      clear hE
      obtain ⟨r109, hr⟩ : ∃ r, object_within ((gi o_.Rows i_).Kind) o_.Kinds = r := ⟨_, rfl⟩
      replace hm := hm r109 hr
      rw [hr] at hp
      clear hr
      subst hp
      refine endP T hS (sp := []) (ks := [1, 2, 5, 26]) (bs := [3, 6]) (sy' := ⟨[(1, I i_), (2, Pt 3 0), (5, Pt 6 0), (26, B (!r109))], [(3, (24, [I o_.States, I o_.Kinds, I o_.Init, V (.slice a1 o_.Rows.length c1)])), (6, (102, [I ((gi o_.Rows i_).State), I ((gi o_.Rows i_).Kind), I ((gi o_.Rows i_).Next), I ((gi o_.Rows i_).Result)]))]⟩) (by kernel_rfl) ?_
      intro a hS
      refine wcond hS (b := (!r109)) (by kernel_rfl) (fun hb => ?_) (fun hb => ?_)
      · replace hm := hm.1 hb
        refine regP T hS (sp := []) (ks := [4]) (bs := []) (sy' := ⟨[(4, I 31)], []⟩) (by kernel_rfl) ?_
        intro a hS
        refine wret ?_
        exact fin T hS hO (fun c => c) rfl (r := [.int .i64 31]) (by kernel_rfl) (fun χ' hM hC => ⟨31, hm, rfl⟩)
      · replace hm := hm.2 hb
        refine regO ?_
        refine opsP T hS 2 (sp := []) (ks := [1, 2, 5, 35]) (bs := [3, 6]) (sy' := ⟨[(1, I i_), (2, Pt 3 0), (5, Pt 6 0), (35, I ((gi o_.Rows i_).Result))], [(3, (24, [I o_.States, I o_.Kinds, I o_.Init, V (.slice a1 o_.Rows.length c1)])), (6, (102, [I ((gi o_.Rows i_).State), I ((gi o_.Rows i_).Kind), I ((gi o_.Rows i_).Next), I ((gi o_.Rows i_).Result)]))]⟩) (by kernel_rfl) ?_
        intro a hS
        refine op1 (call hS (by kernel_rfl) (by kernel_rfl) hb54 (by kernel_rfl) (fun _ _ => rfl) (k54 _ _ ((gi o_.Rows i_).Result) 1000001) ?_)
        intro v110 a w111 χ112 hE hp hS
        replace hO := hO.mv hE rfl rfl
        replace h105 := h105.mv hE rfl
        clear hE
        obtain ⟨r113, hr⟩ : ∃ r, object_within ((gi o_.Rows i_).Result) 1000001 = r := ⟨_, rfl⟩
        replace hm := hm r113 hr
        rw [hr] at hp
        clear hr
        subst hp
        refine endP T hS (sp := []) (ks := [1, 2, 5, 33]) (bs := [3, 6]) (sy' := ⟨[(1, I i_), (2, Pt 3 0), (5, Pt 6 0), (33, B (!r113))], [(3, (24, [I o_.States, I o_.Kinds, I o_.Init, V (.slice a1 o_.Rows.length c1)])), (6, (102, [I ((gi o_.Rows i_).State), I ((gi o_.Rows i_).Kind), I ((gi o_.Rows i_).Next), I ((gi o_.Rows i_).Result)]))]⟩) (by kernel_rfl) ?_
        intro a hS
        refine wcond hS (b := (!r113)) (by kernel_rfl) (fun hb => ?_) (fun hb => ?_)
        · replace hm := hm.1 hb
          refine regP T hS (sp := []) (ks := [4]) (bs := []) (sy' := ⟨[(4, I 7)], []⟩) (by kernel_rfl) ?_
          intro a hS
          refine wret ?_
          exact fin T hS hO (fun c => c) rfl (r := [.int .i64 7]) (by kernel_rfl) (fun χ' hM hC => ⟨7, hm, rfl⟩)
        · replace hm := hm.2 hb
          refine wcut (fun a w => ∃ (ρ : Nat → Nat) (χ : Nat → Nat) (x_114 : Bool), VC55_J2 Q x_114 ∧ St Try.f55.ntmps ⟨[(38, B x_114)], []⟩ ρ a w χ ∧ Old w0 χ0 w χ) ?_ ?_
          · refine drawn [3, 6] mixed hS ?_
            intro w115 hS hE hD hH
            replace hO := hO.mv hE rfl rfl
            replace h105 := h105.mv hE rfl
            clear hE
            refine take T [0, 1, 2] [3, 6] [1, 2, 5, 41] hS (by kernel_rfl) (by kernel_rfl) (by kernel_rfl) hH (listed' := #[true, true, true, false, false, false, false, false, false, false, false, false, false, false]) (fuel := 11) (sy' := ⟨[(1, I i_), (2, Pt 3 0), (5, Pt 6 0), (41, B (decide (i_ > 0)))], [(3, (24, [I o_.States, I o_.Kinds, I o_.Init, V (.slice a1 o_.Rows.length c1)])), (6, (102, [I ((gi o_.Rows i_).State), I ((gi o_.Rows i_).Kind), I ((gi o_.Rows i_).Next), I ((gi o_.Rows i_).Result)]))]⟩) (by kernel_rfl) (by rfl) ?_
            intro a hS
            rcases Bool.eq_false_or_eq_true (decide (i_ > 0)) with hb | hb
            · replace hS := hS.lit (t := 41) (by kernel_rfl) hb
              replace hm := hm.1 hb
              refine take T [3, 5, 9, 4, 6] [3, 6] [41, 43, 45, 48] hS (by kernel_rfl) (by kernel_rfl) (by kernel_rfl) hH (listed' := #[true, true, true, true, true, true, true, false, false, true, false, false, false, false]) (fuel := 6) (sy' := ⟨[(41, B true), (43, V (.slice a1 o_.Rows.length c1)), (45, I (IntKind.i64.wrap (i_ - 1))), (48, V (.agg #[.int .i64 ((gi o_.Rows i_).State), .int .i64 ((gi o_.Rows i_).Kind), .int .i64 ((gi o_.Rows i_).Next), .int .i64 ((gi o_.Rows i_).Result)]))], [(3, (24, [I o_.States, I o_.Kinds, I o_.Init, V (.slice a1 o_.Rows.length c1)])), (6, (102, [I ((gi o_.Rows i_).State), I ((gi o_.Rows i_).Kind), I ((gi o_.Rows i_).Next), I ((gi o_.Rows i_).Result)]))]⟩) (by kernel_rfl) (by rfl) ?_
              intro a hS
              obtain ⟨hq, hm⟩ := hm
              refine dindex (e := 102) (k := .i64) T 7 hS (by kernel_rfl) (by kernel_rfl) (by kernel_rfl) (by rfl) (by kernel_rfl) hH (by kernel_rfl) (by kernel_rfl) h105 (by kernel_rfl) (by kernel_rfl) hq.1 hq.2 ?_
              intro A116 a h117 hS
              clear hq
              have h117b := h117.here
              refine dloadA T 8 hS (by kernel_rfl) (by kernel_rfl) (by kernel_rfl) (by rfl) (by kernel_rfl) hH (by kernel_rfl) h117 h117b (by kernel_rfl) (by kernel_rfl) ?_
              intro v118 a hv hS
              subst hv
              refine only 10 (by kernel_rfl) (by rfl) (call hS (by kernel_rfl) (by kernel_rfl) hb72 (by kernel_rfl) (fun _ _ => rfl) (k72 _ _ (gi o_.Rows (IntKind.i64.wrap (i_ - 1))) (gi o_.Rows i_)) ?_)
              intro v119 a w120 χ121 hE hp hS
              replace hO := hO.mv hE rfl rfl
              replace hD := hD.ev hE rfl
              replace h105 := h105.mv hE rfl
              replace h117 := h117.mv hE rfl
              clear hE
              obtain ⟨r122, hr⟩ : ∃ r, object_place (gi o_.Rows (IntKind.i64.wrap (i_ - 1))) (gi o_.Rows i_) = r := ⟨_, rfl⟩
              replace hm := hm r122 hr
              rw [hr] at hp
              clear hr
              subst hp
              replace hS := hS.sel [41, 43, 45, 48, 46, 47, 49] [3, 6] (sy' := ⟨[(41, B true), (43, V (.slice a1 o_.Rows.length c1)), (45, I (IntKind.i64.wrap (i_ - 1))), (48, V (.agg #[.int .i64 ((gi o_.Rows i_).State), .int .i64 ((gi o_.Rows i_).Kind), .int .i64 ((gi o_.Rows i_).Next), .int .i64 ((gi o_.Rows i_).Result)])), (46, V (.pointer (some A116))), (47, V (.agg #[.int .i64 ((gi o_.Rows (IntKind.i64.wrap (i_ - 1))).State), .int .i64 ((gi o_.Rows (IntKind.i64.wrap (i_ - 1))).Kind), .int .i64 ((gi o_.Rows (IntKind.i64.wrap (i_ - 1))).Next), .int .i64 ((gi o_.Rows (IntKind.i64.wrap (i_ - 1))).Result)])), (49, I r122)], [(3, (24, [I o_.States, I o_.Kinds, I o_.Init, V (.slice a1 o_.Rows.length c1)])), (6, (102, [I ((gi o_.Rows i_).State), I ((gi o_.Rows i_).Kind), I ((gi o_.Rows i_).Next), I ((gi o_.Rows i_).Result)]))]⟩) (by kernel_rfl)
              refine andH (Hold.of hS (bks := [3, 6]) (by kernel_rfl) hD) ?_
              intro hH
              refine take T [11, 12, 13] [3, 6] [38] hS (by kernel_rfl) (by kernel_rfl) (by kernel_rfl) hH (listed' := #[true, true, true, true, true, true, true, true, true, true, true, true, true, true]) (fuel := 0) (sy' := ⟨[(38, B (decide (r122 ≥ 0)))], [(3, (24, [I o_.States, I o_.Kinds, I o_.Init, V (.slice a1 o_.Rows.length c1)])), (6, (102, [I ((gi o_.Rows i_).State), I ((gi o_.Rows i_).Kind), I ((gi o_.Rows i_).Next), I ((gi o_.Rows i_).Result)]))]⟩) (by kernel_rfl) (by rfl) ?_
              intro a hS
              refine drawnDone (by kernel_rfl) ?_
              clear hD hH
              replace hS := hS.sel [38] [] (sy' := ⟨[(38, B (decide (r122 ≥ 0)))], []⟩) (by kernel_rfl)
              exact ⟨ρ, _, decide (r122 ≥ 0), hm, hS.sel [38] [] (by kernel_rfl), hO⟩
            · replace hS := hS.lit (t := 41) (by kernel_rfl) hb
              replace hm := hm.2 hb
              refine take T [3, 5, 9, 4, 6, 7, 8, 10, 11, 12, 13] [3, 6] [38] hS (by kernel_rfl) (by kernel_rfl) (by kernel_rfl) hH (listed' := #[true, true, true, true, true, true, true, true, true, true, true, true, true, true]) (fuel := 0) (sy' := ⟨[(38, B false)], [(3, (24, [I o_.States, I o_.Kinds, I o_.Init, V (.slice a1 o_.Rows.length c1)])), (6, (102, [I ((gi o_.Rows i_).State), I ((gi o_.Rows i_).Kind), I ((gi o_.Rows i_).Next), I ((gi o_.Rows i_).Result)]))]⟩) (by kernel_rfl) (by rfl) ?_
              intro a hS
              refine drawnDone (by kernel_rfl) ?_
              clear hD hH
              replace hS := hS.sel [38] [] (sy' := ⟨[(38, B false)], []⟩) (by kernel_rfl)
              exact ⟨ρ, _, false, hm, hS.sel [38] [] (by kernel_rfl), hO⟩
          · rintro a w124 ⟨ρ, χ123, x_114, hm, hS, hO⟩
            unfold VC55_J2 at hm
            refine wcond hS (b := x_114) (by kernel_rfl) (fun hb => ?_) (fun hb => ?_)
            · replace hm := hm.1 hb
              refine regP T hS (sp := []) (ks := [4]) (bs := []) (sy' := ⟨[(4, I 32)], []⟩) (by kernel_rfl) ?_
              intro a hS
              refine wret ?_
              exact fin T hS hO (fun c => c) rfl (r := [.int .i64 32]) (by kernel_rfl) (fun χ' hM hC => ⟨32, hm, rfl⟩)
            · replace hm := hm.2 hb
              refine wskip ?_
              refine regP T hS (sp := []) (ks := [4]) (bs := []) (sy' := ⟨[(4, I 0)], []⟩) (by kernel_rfl) ?_
              intro a hS
              refine wret ?_
              exact fin T hS hO (fun c => c) rfl (r := [.int .i64 0]) (by kernel_rfl) (fun χ' hM hC => ⟨0, hm, rfl⟩)
theorem C55 (k54 : S54) (k72 : S72) (v : ∀ (o_ : Api_Object) (i_ : Int), preRow o_ i_ → VC55 o_ i_ (fun r => r = object_row o_ i_)) : S55 := by
  intro w χ o_ i_ a1 c1   hp h1
  refine (W55 k54 k72 w χ o_ i_ a1 c1   _ (v o_ i_ hp) h1).mono ?_
  rintro _ _ _ _ ⟨r, rfl, h⟩
  exact h
def S31 : Prop := ∀ (w : World) (χ : Nat → Nat) (o_ : Api_Object) (a1 : Option Addr) (c1 : Nat), preO o_ → RS tApi_Row w χ a1 o_.Rows c1 → Ret Try.prog 31 #[.agg #[.int .i64 o_.States, .int .i64 o_.Kinds, .int .i64 o_.Init, .slice a1 o_.Rows.length c1]] xnone w χ (fun w χ' v => v = .tuple #[.int .i64 ((object_Check o_).1), .int .i64 ((object_Check o_).2)])
theorem hb31 : hasBody Try.prog 31 = true := by kernel_rfl
/-- replevin/object.Check -/
theorem W31 (k54 : S54) (k55 : S55) (w0 : World) (χ0 : Nat → Nat) (o_ : Api_Object) (a1 : Option Addr) (c1 : Nat) (Q : Int × Int → Prop) (hm : VC31 o_ Q) (h1 : RS tApi_Row w0 χ0 a1 o_.Rows c1) :
    Ret Try.prog 31 #[.agg #[.int .i64 o_.States, .int .i64 o_.Kinds, .int .i64 o_.Init, .slice a1 o_.Rows.length c1]] xnone w0 χ0 (fun w χ' v => ∃ r, Q r ∧ v = .tuple #[.int .i64 r.1, .int .i64 r.2]) := by
  unfold VC31 at hm
  replace hm := hm (h1.sm (by kernel_rfl))
  refine enter Try.func31 rfl (vals := [.agg #[.int .i64 o_.States, .int .i64 o_.Kinds, .int .i64 o_.Init, .slice a1 o_.Rows.length c1]]) (by kernel_rfl) ?_
  intro ρ a hS hO hM
  replace h1 := h1.m0 hM
  clear hM
  refine regM T hS (sp := []) (ks := [1]) (bs := [2]) (sy' := ⟨[(1, Pt 2 0)], [(2, (24, [I o_.States, I o_.Kinds, I o_.Init, V (.slice a1 o_.Rows.length c1)]))]⟩) (by kernel_rfl) ?_
  intro ρ a w128 χ129 hS hE hr
  replace hO := hO.mv hE rfl rfl
  replace h1 := h1.mv hE rfl
  clear hE hr
  refine wseq ?_
  refine wcut (fun a w => ∃ (ρ : Nat → Nat) (χ : Nat → Nat) (x_101 : Bool), VC31_J1 o_ Q x_101 ∧ St Try.f31.ntmps ⟨[(1, Pt 2 0), (25, B x_101)], [(2, (24, [I o_.States, I o_.Kinds, I o_.Init, V (.slice a1 o_.Rows.length c1)]))]⟩ ρ a w χ ∧ Old w0 χ0 w χ ∧ RS tApi_Row w χ a1 o_.Rows c1) ?_ ?_
  · refine region ?_
    refine opsP T hS 3 (sp := []) (ks := [1, 8]) (bs := [2]) (sy' := ⟨[(1, Pt 2 0), (8, I (IntKind.i64.wrap (o_.States - 1)))], [(2, (24, [I o_.States, I o_.Kinds, I o_.Init, V (.slice a1 o_.Rows.length c1)]))]⟩) (by kernel_rfl) ?_
    intro a hS
    refine op1 (call hS (by kernel_rfl) (by kernel_rfl) hb54 (by kernel_rfl) (fun _ _ => rfl) (k54 _ _ (IntKind.i64.wrap (o_.States - 1)) 32) ?_)
    intro v114 a w115 χ116 hE hp hS
    replace hO := hO.mv hE rfl rfl
    replace h1 := h1.mv hE rfl
    clear hE
    obtain ⟨r117, hr⟩ : ∃ r, object_within (IntKind.i64.wrap (o_.States - 1)) 32 = r := ⟨_, rfl⟩
    replace hm := hm r117 hr
    rw [hr] at hp
    clear hr
    subst hp
    refine opsP T hS 2 (sp := []) (ks := [1, 11]) (bs := [2]) (sy' := ⟨[(1, Pt 2 0), (11, B (!r117))], [(2, (24, [I o_.States, I o_.Kinds, I o_.Init, V (.slice a1 o_.Rows.length c1)]))]⟩) (by kernel_rfl) ?_
    intro a hS
    rcases Bool.eq_false_or_eq_true (!r117) with hb | hb
    · replace hS := hS.lit (t := 11) (by kernel_rfl) hb
      replace hm := hm.1 hb
      refine endP T hS (sp := []) (ks := [1, 25]) (bs := [2]) (sy' := ⟨[(1, Pt 2 0), (25, B true)], [(2, (24, [I o_.States, I o_.Kinds, I o_.Init, V (.slice a1 o_.Rows.length c1)]))]⟩) (by kernel_rfl) ?_
      intro a hS
      exact ⟨ρ, _, true, hm, hS.sel [1, 25] [2] (by kernel_rfl), hO, h1⟩
    · replace hS := hS.lit (t := 11) (by kernel_rfl) hb
      replace hm := hm.2 hb
      refine opsP T hS 3 (sp := []) (ks := [1, 11, 14]) (bs := [2]) (sy' := ⟨[(1, Pt 2 0), (11, B false), (14, I (IntKind.i64.wrap (o_.Kinds - 1)))], [(2, (24, [I o_.States, I o_.Kinds, I o_.Init, V (.slice a1 o_.Rows.length c1)]))]⟩) (by kernel_rfl) ?_
      intro a hS
      refine op1 (call hS (by kernel_rfl) (by kernel_rfl) hb54 (by kernel_rfl) (fun _ _ => rfl) (k54 _ _ (IntKind.i64.wrap (o_.Kinds - 1)) 64) ?_)
      intro v118 a w119 χ120 hE hp hS
      replace hO := hO.mv hE rfl rfl
      replace h1 := h1.mv hE rfl
      clear hE
      obtain ⟨r121, hr⟩ : ∃ r, object_within (IntKind.i64.wrap (o_.Kinds - 1)) 64 = r := ⟨_, rfl⟩
      replace hm := hm r121 hr
      rw [hr] at hp
      clear hr
      subst hp
      refine opsP T hS 3 (sp := []) (ks := [1, 18]) (bs := [2]) (sy' := ⟨[(1, Pt 2 0), (18, B (!r121))], [(2, (24, [I o_.States, I o_.Kinds, I o_.Init, V (.slice a1 o_.Rows.length c1)]))]⟩) (by kernel_rfl) ?_
      intro a hS
      rcases Bool.eq_false_or_eq_true (!r121) with hb | hb
      · replace hS := hS.lit (t := 18) (by kernel_rfl) hb
        replace hm := hm.1 hb
        refine endP T hS (sp := []) (ks := [1, 25]) (bs := [2]) (sy' := ⟨[(1, Pt 2 0), (25, B true)], [(2, (24, [I o_.States, I o_.Kinds, I o_.Init, V (.slice a1 o_.Rows.length c1)]))]⟩) (by kernel_rfl) ?_
        intro a hS
        exact ⟨ρ, _, true, hm, hS.sel [1, 25] [2] (by kernel_rfl), hO, h1⟩
      · replace hS := hS.lit (t := 18) (by kernel_rfl) hb
        replace hm := hm.2 hb
        refine opsP T hS 4 (sp := []) (ks := [1, 18, 20, 22]) (bs := [2]) (sy' := ⟨[(1, Pt 2 0), (18, B false), (20, I o_.Init), (22, I o_.States)], [(2, (24, [I o_.States, I o_.Kinds, I o_.Init, V (.slice a1 o_.Rows.length c1)]))]⟩) (by kernel_rfl) ?_
        intro a hS
        refine op1 (call hS (by kernel_rfl) (by kernel_rfl) hb54 (by kernel_rfl) (fun _ _ => rfl) (k54 _ _ o_.Init o_.States) ?_)
        intro v122 a w123 χ124 hE hp hS
        replace hO := hO.mv hE rfl rfl
        replace h1 := h1.mv hE rfl
        clear hE
        obtain ⟨r125, hr⟩ : ∃ r, object_within o_.Init o_.States = r := ⟨_, rfl⟩
        replace hm := hm r125 hr
        rw [hr] at hp
        clear hr
        subst hp
        refine endP T hS (sp := []) (ks := [1, 25]) (bs := [2]) (sy' := ⟨[(1, Pt 2 0), (25, B (!r125))], [(2, (24, [I o_.States, I o_.Kinds, I o_.Init, V (.slice a1 o_.Rows.length c1)]))]⟩) (by kernel_rfl) ?_
        intro a hS
        exact ⟨ρ, _, (!r125), hm, hS.sel [1, 25] [2] (by kernel_rfl), hO, h1⟩
  · rintro a w127 ⟨ρ, χ126, x_101, hm, hS, hO, h102⟩
    unfold VC31_J1 at hm
    refine wcond hS (b := x_101) (by kernel_rfl) (fun hb => ?_) (fun hb => ?_)
    · replace hm := hm.1 hb
      refine regP T hS (sp := []) (ks := [2, 3]) (bs := []) (sy' := ⟨[(2, I (-1)), (3, I 2)], []⟩) (by kernel_rfl) ?_
      intro a hS
      refine wret ?_
      exact fin T hS hO (fun c => c) rfl (r := [.int .i64 (-1), .int .i64 2]) (by kernel_rfl) (fun χ' hM hC => ⟨((-1), 2), hm, rfl⟩)
    · replace hm := hm.2 hb
      refine wskip ?_
      refine wcut (fun a w => ∃ (ρ : Nat → Nat) (χ : Nat → Nat), VC31_J2 o_ Q ∧ St Try.f31.ntmps ⟨[(1, Pt 2 0)], [(2, (24, [I o_.States, I o_.Kinds, I o_.Init, V (.slice a1 o_.Rows.length c1)]))]⟩ ρ a w χ ∧ Old w0 χ0 w χ ∧ RS tApi_Row w χ a1 o_.Rows c1) ?_ ?_
      · refine regP T hS (sp := []) (ks := [1, 28, 29]) (bs := [2]) (sy' := ⟨[(1, Pt 2 0), (28, I ((o_.Rows.length : Nat) : Int)), (29, I 0)], [(2, (24, [I o_.States, I o_.Kinds, I o_.Init, V (.slice a1 o_.Rows.length c1)]))]⟩) (by kernel_rfl) ?_
        intro a hS
        refine wblock ?_
        obtain ⟨I1, μ1, hm0, hm⟩ := hm
        refine wloop (σ := Int) (fun s a w => ∃ (ρ : Nat → Nat) (χ : Nat → Nat), I1 s ∧ St Try.f31.ntmps ⟨[(1, Pt 2 0), (28, I ((o_.Rows.length : Nat) : Int)), (29, I s)], [(2, (24, [I o_.States, I o_.Kinds, I o_.Init, V (.slice a1 o_.Rows.length c1)]))]⟩ ρ a w χ ∧ Old w0 χ0 w χ ∧ RS tApi_Row w χ a1 o_.Rows c1) (fun s => μ1 s) (0) ?_ ?_
        · exact ⟨ρ, _, hm0, hS.sel [1, 28, 29] [2] (by kernel_rfl), hO, h102⟩
        · rintro x_104 a w111 ⟨ρ, χ110, hI, hS, hO, h105⟩
          replace hm := hm x_104 hI
          clear hI hm0
          refine regP T hS (sp := []) (ks := [1, 28, 29, 30]) (bs := [2]) (sy' := ⟨[(1, Pt 2 0), (28, I ((o_.Rows.length : Nat) : Int)), (29, I x_104), (30, B (decide (x_104 < ((o_.Rows.length : Nat) : Int))))], [(2, (24, [I o_.States, I o_.Kinds, I o_.Init, V (.slice a1 o_.Rows.length c1)]))]⟩) (by kernel_rfl) ?_
          intro a hS
          refine wseq ?_
          refine wcond hS (b := decide (x_104 < ((o_.Rows.length : Nat) : Int))) (by kernel_rfl) (fun hb => ?_) (fun hb => ?_)
          · replace hm := hm.1 hb
            refine wskip ?_
            refine wseq ?_
            refine wblock ?_
            refine regP T hS (sp := []) (ks := [1, 4, 28, 29]) (bs := [2]) (sy' := ⟨[(1, Pt 2 0), (4, I x_104), (28, I ((o_.Rows.length : Nat) : Int)), (29, I x_104)], [(2, (24, [I o_.States, I o_.Kinds, I o_.Init, V (.slice a1 o_.Rows.length c1)]))]⟩) (by kernel_rfl) ?_
            intro a hS
            refine regO ?_
            refine opsP T hS 2 (sp := []) (ks := [1, 4, 28, 29, 32, 33]) (bs := [2]) (sy' := ⟨[(1, Pt 2 0), (4, I x_104), (28, I ((o_.Rows.length : Nat) : Int)), (29, I x_104), (32, V (.agg #[.int .i64 o_.States, .int .i64 o_.Kinds, .int .i64 o_.Init, .slice a1 o_.Rows.length c1])), (33, I x_104)], [(2, (24, [I o_.States, I o_.Kinds, I o_.Init, V (.slice a1 o_.Rows.length c1)]))]⟩) (by kernel_rfl) ?_
            intro a hS
            obtain ⟨hq, hm⟩ := hm
            refine op1 (call hS (by kernel_rfl) (by kernel_rfl) hb55 (by kernel_rfl) (fun _ _ => rfl) (k55 _ _ o_ x_104 a1 c1 hq h105) ?_)
            intro v106 a w107 χ108 hE hp hS
            clear hq
            replace hO := hO.mv hE rfl rfl
            replace h105 := h105.mv hE rfl
            clear hE
            obtain ⟨r109, hr⟩ : ∃ r, object_row o_ x_104 = r := ⟨_, rfl⟩
            replace hm := hm r109 hr
            rw [hr] at hp
            clear hr
            subst hp
            refine endP T hS (sp := []) (ks := [1, 4, 5, 28, 29]) (bs := [2]) (sy' := ⟨[(1, Pt 2 0), (4, I x_104), (5, I r109), (28, I ((o_.Rows.length : Nat) : Int)), (29, I x_104)], [(2, (24, [I o_.States, I o_.Kinds, I o_.Init, V (.slice a1 o_.Rows.length c1)]))]⟩) (by kernel_rfl) ?_
            intro a hS
            refine regP T hS (sp := []) (ks := [1, 4, 5, 28, 29, 36]) (bs := [2]) (sy' := ⟨[(1, Pt 2 0), (4, I x_104), (5, I r109), (28, I ((o_.Rows.length : Nat) : Int)), (29, I x_104), (36, B (r109 != 0))], [(2, (24, [I o_.States, I o_.Kinds, I o_.Init, V (.slice a1 o_.Rows.length c1)]))]⟩) (by kernel_rfl) ?_
            intro a hS
            refine wcond hS (b := (r109 != 0)) (by kernel_rfl) (fun hb => ?_) (fun hb => ?_)
            · replace hm := hm.1 hb
              refine regP T hS (sp := []) (ks := [2, 3]) (bs := []) (sy' := ⟨[(2, I x_104), (3, I r109)], []⟩) (by kernel_rfl) ?_
              intro a hS
              refine wret ?_
              exact fin T hS hO (fun c => c) rfl (r := [.int .i64 x_104, .int .i64 r109]) (by kernel_rfl) (fun χ' hM hC => ⟨(x_104, r109), hm, rfl⟩)
            · replace hm := hm.2 hb
              refine wskip ?_
              refine region (endP T hS (sp := []) (ks := [1, 28, 29]) (bs := [2]) (sy' := ⟨[(1, Pt 2 0), (28, I ((o_.Rows.length : Nat) : Int)), (29, I (IntKind.i64.wrap (x_104 + 1)))], [(2, (24, [I o_.States, I o_.Kinds, I o_.Init, V (.slice a1 o_.Rows.length c1)]))]⟩) (by kernel_rfl) ?_)
              intro a hS
              exact ⟨IntKind.i64.wrap (x_104 + 1), ⟨ρ, _, hm.1, hS.sel [1, 28, 29] [2] (by kernel_rfl), hO, h105⟩, hm.2⟩
          · replace hm := hm.2 hb
            refine wexit (by rfl) ?_
            exact ⟨ρ, _, hm, hS.sel [1] [2] (by kernel_rfl), hO, h105⟩
      · rintro a w113 ⟨ρ, χ112, hm, hS, hO, h103⟩
        unfold VC31_J2 at hm
        refine regP T hS (sp := []) (ks := [2, 3]) (bs := []) (sy' := ⟨[(2, I ((o_.Rows.length : Nat) : Int)), (3, I 0)], []⟩) (by kernel_rfl) ?_
        intro a hS
        refine wret ?_
        exact fin T hS hO (fun c => c) rfl (r := [.int .i64 ((o_.Rows.length : Nat) : Int), .int .i64 0]) (by kernel_rfl) (fun χ' hM hC => ⟨(((o_.Rows.length : Nat) : Int), 0), hm, rfl⟩)
theorem C31 (k54 : S54) (k55 : S55) (v : ∀ (o_ : Api_Object), preO o_ → VC31 o_ (fun r => r = object_Check o_)) : S31 := by
  intro w χ o_ a1 c1   hp h1
  refine (W31 k54 k55 w χ o_ a1 c1   _ (v o_ hp) h1).mono ?_
  rintro _ _ _ _ ⟨r, rfl, h⟩
  exact h
def S44 : Prop := ∀ (w : World) (χ : Nat → Nat) (o_ : Api_Object) (state : Int) (a1 : Option Addr) (c1 : Nat), preO1 o_ state → RS tApi_Row w χ a1 o_.Rows c1 → Ret Try.prog 44 #[.agg #[.int .i64 o_.States, .int .i64 o_.Kinds, .int .i64 o_.Init, .slice a1 o_.Rows.length c1], .int .i64 state] xnone w χ (fun w χ' v => v = .int .i64 (run_may o_ state))
theorem hb44 : hasBody Try.prog 44 = true := by kernel_rfl
/-- replevin/run.may -/
theorem W44 (k31 : S31) (w0 : World) (χ0 : Nat → Nat) (o_ : Api_Object) (state : Int) (a1 : Option Addr) (c1 : Nat) (Q : Int → Prop) (hm : VC44 o_ state Q) (h1 : RS tApi_Row w0 χ0 a1 o_.Rows c1) :
    Ret Try.prog 44 #[.agg #[.int .i64 o_.States, .int .i64 o_.Kinds, .int .i64 o_.Init, .slice a1 o_.Rows.length c1], .int .i64 state] xnone w0 χ0 (fun w χ' v => ∃ r, Q r ∧ v = .int .i64 r) := by
  unfold VC44 at hm
  replace hm := hm (h1.sm (by kernel_rfl))
  refine enter Try.func44 rfl (vals := [.agg #[.int .i64 o_.States, .int .i64 o_.Kinds, .int .i64 o_.Init, .slice a1 o_.Rows.length c1], .int .i64 state]) (by kernel_rfl) ?_
  intro ρ a hS hO hM
  replace h1 := h1.m0 hM
  clear hM
  refine regM T hS (sp := []) (ks := [1, 2]) (bs := [3]) (sy' := ⟨[(1, I state), (2, Pt 3 0)], [(3, (24, [I o_.States, I o_.Kinds, I o_.Init, V (.slice a1 o_.Rows.length c1)]))]⟩) (by kernel_rfl) ?_
  intro ρ a w105 χ106 hS hE hr
  replace hO := hO.mv hE rfl rfl
  replace h1 := h1.mv hE rfl
  clear hE hr
  refine wseq ?_
  refine regO ?_
  refine opsP T hS 1 (sp := []) (ks := [1, 2, 8]) (bs := [3]) (sy' := ⟨[(1, I state), (2, Pt 3 0), (8, V (.agg #[.int .i64 o_.States, .int .i64 o_.Kinds, .int .i64 o_.Init, .slice a1 o_.Rows.length c1]))], [(3, (24, [I o_.States, I o_.Kinds, I o_.Init, V (.slice a1 o_.Rows.length c1)]))]⟩) (by kernel_rfl) ?_
  intro a hS
  obtain ⟨hq, hm⟩ := hm
  refine op1 (call hS (by kernel_rfl) (by kernel_rfl) hb31 (by kernel_rfl) (fun _ _ => rfl) (k31 _ _ o_ a1 c1 hq h1) ?_)
  intro v101 a w102 χ103 hE hp hS
  clear hq
  replace hO := hO.mv hE rfl rfl
  replace h1 := h1.mv hE rfl
  clear hE
  obtain ⟨r104, hr⟩ : ∃ r, object_Check o_ = r := ⟨_, rfl⟩
  replace hm := hm r104 hr
  rw [hr] at hp
  clear hr
  subst hp
  refine endP T hS (sp := []) (ks := [1, 2, 6]) (bs := [3]) (sy' := ⟨[(1, I state), (2, Pt 3 0), (6, I r104.2)], [(3, (24, [I o_.States, I o_.Kinds, I o_.Init, V (.slice a1 o_.Rows.length c1)]))]⟩) (by kernel_rfl) ?_
  intro a hS
  refine regP T hS (sp := []) (ks := [1, 2, 13]) (bs := [3]) (sy' := ⟨[(1, I state), (2, Pt 3 0), (13, B (r104.2 != 0))], [(3, (24, [I o_.States, I o_.Kinds, I o_.Init, V (.slice a1 o_.Rows.length c1)]))]⟩) (by kernel_rfl) ?_
  intro a hS
  refine wcond hS (b := (r104.2 != 0)) (by kernel_rfl) (fun hb => ?_) (fun hb => ?_)
  · replace hm := hm.1 hb
    refine regP T hS (sp := []) (ks := [4]) (bs := []) (sy' := ⟨[(4, I 2)], []⟩) (by kernel_rfl) ?_
    intro a hS
    refine wret ?_
    exact fin T hS hO (fun c => c) rfl (r := [.int .i64 2]) (by kernel_rfl) (fun χ' hM hC => ⟨2, hm, rfl⟩)
  · replace hm := hm.2 hb
    refine wskip ?_
    refine wseq ?_
    refine regP T hS (sp := [16]) (ks := [21]) (bs := []) (sy' := ⟨[(21, B ((decide (state < 0)) || (decide (state ≥ o_.States))))], []⟩) (by kernel_rfl) ?_
    intro a hS
    refine wcond hS (b := ((decide (state < 0)) || (decide (state ≥ o_.States)))) (by kernel_rfl) (fun hb => ?_) (fun hb => ?_)
    · replace hm := hm.1 hb
      refine regP T hS (sp := []) (ks := [4]) (bs := []) (sy' := ⟨[(4, I 30)], []⟩) (by kernel_rfl) ?_
      intro a hS
      refine wret ?_
      exact fin T hS hO (fun c => c) rfl (r := [.int .i64 30]) (by kernel_rfl) (fun χ' hM hC => ⟨30, hm, rfl⟩)
    · replace hm := hm.2 hb
      refine wskip ?_
      refine regP T hS (sp := []) (ks := [4]) (bs := []) (sy' := ⟨[(4, I 0)], []⟩) (by kernel_rfl) ?_
      intro a hS
      refine wret ?_
      exact fin T hS hO (fun c => c) rfl (r := [.int .i64 0]) (by kernel_rfl) (fun χ' hM hC => ⟨0, hm, rfl⟩)
theorem C44 (k31 : S31) (v : ∀ (o_ : Api_Object) (state : Int), preO1 o_ state → VC44 o_ state (fun r => r = run_may o_ state)) : S44 := by
  intro w χ o_ state a1 c1   hp h1
  refine (W44 k31 w χ o_ state a1 c1   _ (v o_ state hp) h1).mono ?_
  rintro _ _ _ _ ⟨r, rfl, h⟩
  exact h
def S68 : Prop := ∀ (w : World) (χ : Nat → Nat) (p_ : Api_Pick) (cap1 : List Api_Oper) (cap2 : List (Int × Int)) (cap3 : Api_Object) (cap4 : Int) (a1 : Option Addr) (c1 : Nat) (r2 : Nat) (m2 : Nat) (a3 : Option Addr) (c3 : Nat) (b1 : Nat) (i1 : Nat) (b2 : Nat) (i2 : Nat) (b3 : Nat) (i3 : Nat) (b4 : Nat) (i4 : Nat), RS tApi_Oper w χ a1 cap1 c1 → OM kI tI false w χ m2 r2 cap2 → RS tApi_Row w χ a3 cap3.Rows c3 → Cell w χ b1 i1 25 [.slice a1 cap1.length c1] → Cell w χ b2 i2 85 [.map (some r2)] → Cell w χ b3 i3 24 [.int .i64 cap3.States, .int .i64 cap3.Kinds, .int .i64 cap3.Init, .slice a3 cap3.Rows.length c3] → Cell w χ b4 i4 3 [.int .i64 cap4] → Apart [i1, i2, i3, i4, m2] → Ret Try.prog 68 #[.agg #[.int .i64 p_.Oper, .int .i64 p_.Result], .pointer (some ⟨b1, 0, none⟩), .pointer (some ⟨b2, 0, none⟩), .pointer (some ⟨b3, 0, none⟩), .pointer (some ⟨b4, 0, none⟩)] (pR [i1, i2, i3, i4, m2]) w χ (fun w χ' v => v = .tuple #[.int .i64 ((run_runner_1 p_ cap1 cap2 cap3 cap4).1), .int .i64 ((run_runner_1 p_ cap1 cap2 cap3 cap4).2.1)] ∧ Cell w χ' b1 i1 25 [.slice a1 cap1.length c1] ∧ Cell w χ' b2 i2 85 [.map (some r2)] ∧ OM kI tI false w χ' m2 r2 ((run_runner_1 p_ cap1 cap2 cap3 cap4).2.2.1) ∧ Cell w χ' b3 i3 24 [.int .i64 cap3.States, .int .i64 cap3.Kinds, .int .i64 cap3.Init, .slice a3 cap3.Rows.length c3] ∧ Cell w χ' b4 i4 3 [.int .i64 ((run_runner_1 p_ cap1 cap2 cap3 cap4).2.2.2)])
theorem hb68 : hasBody Try.prog 68 = true := by kernel_rfl
/-- replevin/run.runner$1 -/
theorem W68 (k17 : S17) (w0 : World) (χ0 : Nat → Nat) (p_ : Api_Pick) (cap1 : List Api_Oper) (cap2 : List (Int × Int)) (cap3 : Api_Object) (cap4 : Int) (a1 : Option Addr) (c1 : Nat) (r2 : Nat) (m2 : Nat) (a3 : Option Addr) (c3 : Nat) (b1 : Nat) (i1 : Nat) (b2 : Nat) (i2 : Nat) (b3 : Nat) (i3 : Nat) (b4 : Nat) (i4 : Nat) (Q : Int × Int × (List (Int × Int)) × Int → Prop) (hm : VC68 p_ cap1 cap2 cap3 cap4 Q) (h1 : RS tApi_Oper w0 χ0 a1 cap1 c1) (h2 : OM kI tI false w0 χ0 m2 r2 cap2) (h3 : RS tApi_Row w0 χ0 a3 cap3.Rows c3) (hc1 : Cell w0 χ0 b1 i1 25 [.slice a1 cap1.length c1]) (hc2 : Cell w0 χ0 b2 i2 85 [.map (some r2)]) (hc3 : Cell w0 χ0 b3 i3 24 [.int .i64 cap3.States, .int .i64 cap3.Kinds, .int .i64 cap3.Init, .slice a3 cap3.Rows.length c3]) (hc4 : Cell w0 χ0 b4 i4 3 [.int .i64 cap4]) (hA : Apart [i1, i2, i3, i4, m2]) :
    Ret Try.prog 68 #[.agg #[.int .i64 p_.Oper, .int .i64 p_.Result], .pointer (some ⟨b1, 0, none⟩), .pointer (some ⟨b2, 0, none⟩), .pointer (some ⟨b3, 0, none⟩), .pointer (some ⟨b4, 0, none⟩)] (pR [i1, i2, i3, i4, m2]) w0 χ0 (fun w χ' v => ∃ r, Q r ∧ v = .tuple #[.int .i64 r.1, .int .i64 r.2.1] ∧ Cell w χ' b1 i1 25 [.slice a1 cap1.length c1] ∧ Cell w χ' b2 i2 85 [.map (some r2)] ∧ OM kI tI false w χ' m2 r2 r.2.2.1 ∧ Cell w χ' b3 i3 24 [.int .i64 cap3.States, .int .i64 cap3.Kinds, .int .i64 cap3.Init, .slice a3 cap3.Rows.length c3] ∧ Cell w χ' b4 i4 3 [.int .i64 r.2.2.2]) := by
  unfold VC68 at hm
  replace hm := hm (h1.sm (by kernel_rfl))
  replace hm := hm (h3.sm (by kernel_rfl))
  refine enterR Try.func68 rfl (f0of [(i1, 901), (i2, 902), (i3, 903), (i4, 904), (m2, 2002)]) (fun id => (bif Nat.beq id 901 then b1 else (bif Nat.beq id 902 then b2 else (bif Nat.beq id 903 then b3 else (bif Nat.beq id 904 then b4 else 0))))) (args := [V (.agg #[.int .i64 p_.Oper, .int .i64 p_.Result]), Pt 901 0, Pt 902 0, Pt 903 0, Pt 904 0]) (bxs := [(901, (25, [V (.slice a1 cap1.length c1)])), (902, (85, [V (.map (some r2))])), (903, (24, [I cap3.States, I cap3.Kinds, I cap3.Init, V (.slice a3 cap3.Rows.length c3)])), (904, (3, [I cap4]))]) (by kernel_rfl) rfl (BoxesOK.cons (by kernel_rfl) (hc1.map (f0of_at 0 hA.1 rfl)) (BoxesOK.cons (by kernel_rfl) (hc2.map (f0of_at 1 hA.1 rfl)) (BoxesOK.cons (by kernel_rfl) (hc3.map (f0of_at 2 hA.1 rfl)) (BoxesOK.cons (by kernel_rfl) (hc4.map (f0of_at 3 hA.1 rfl)) BoxesOK.nil)))) (f0of_0 (fun q hq => (hA.2 q.1 (List.mem_map.2 ⟨q, hq, rfl⟩)).1)) ?_
  intro a hS hO hM
  have hP : Pin [(901, b1), (902, b2), (903, b3), (904, b4)] (fun id => (bif Nat.beq id 901 then b1 else (bif Nat.beq id 902 then b2 else (bif Nat.beq id 903 then b3 else (bif Nat.beq id 904 then b4 else 0))))) := by intro q hq; simp at hq; rcases hq with rfl | rfl | rfl | rfl <;> rfl
  generalize (fun id => (bif Nat.beq id 901 then b1 else (bif Nat.beq id 902 then b2 else (bif Nat.beq id 903 then b3 else (bif Nat.beq id 904 then b4 else 0))))) = ρ at hS hP
  clear hc1 hc2 hc3 hc4
  replace h1 := h1.m0 hM
  replace h2 := h2.map (f := f0of [(i1, 901), (i2, 902), (i3, 903), (i4, 904), (m2, 2002)]) (f0of_at 4 hA.1 rfl) hM
  replace h3 := h3.m0 hM
  clear hM
  refine regM T hS (sp := []) (ks := [1, 2, 3, 4, 5]) (bs := [6, 901, 902, 903, 904]) (sy' := ⟨[(1, Pt 901 0), (2, Pt 902 0), (3, Pt 903 0), (4, Pt 904 0), (5, Pt 6 0)], [(6, (52, [I p_.Oper, I p_.Result])), (901, (25, [V (.slice a1 cap1.length c1)])), (902, (85, [V (.map (some r2))])), (903, (24, [I cap3.States, I cap3.Kinds, I cap3.Init, V (.slice a3 cap3.Rows.length c3)])), (904, (3, [I cap4]))]⟩) (by kernel_rfl) ?_
  intro ρ a w122 χ123 hS hE hr
  replace hO := hO.mv hE rfl rfl
  replace h1 := h1.mv hE rfl
  replace h2 := h2.mv hE rfl rfl
  replace h3 := h3.mv hE rfl
  replace hP := hP.mv hr (by kernel_rfl)
  clear hE hr
  refine wseq ?_
  refine wblock ?_
  refine regP T hS (sp := [15]) (ks := [1, 2, 3, 4, 5, 11]) (bs := [6, 901, 902, 903, 904]) (sy' := ⟨[(1, Pt 901 0), (2, Pt 902 0), (3, Pt 903 0), (4, Pt 904 0), (5, Pt 6 0), (11, B ((decide (p_.Oper < 0)) || (decide (p_.Oper ≥ ((cap1.length : Nat) : Int)))))], [(6, (52, [I p_.Oper, I p_.Result])), (901, (25, [V (.slice a1 cap1.length c1)])), (902, (85, [V (.map (some r2))])), (903, (24, [I cap3.States, I cap3.Kinds, I cap3.Init, V (.slice a3 cap3.Rows.length c3)])), (904, (3, [I cap4]))]⟩) (by kernel_rfl) ?_
  intro a hS
  refine wcond hS (b := ((decide (p_.Oper < 0)) || (decide (p_.Oper ≥ ((cap1.length : Nat) : Int))))) (by kernel_rfl) (fun hb => ?_) (fun hb => ?_)
  · replace hm := hm.1 hb
    refine regP T hS (sp := []) (ks := [6, 7]) (bs := [901, 902, 903, 904]) (sy' := ⟨[(6, I 0), (7, I 2)], [(901, (25, [V (.slice a1 cap1.length c1)])), (902, (85, [V (.map (some r2))])), (903, (24, [I cap3.States, I cap3.Kinds, I cap3.Init, V (.slice a3 cap3.Rows.length c3)])), (904, (3, [I cap4]))]⟩) (by kernel_rfl) ?_
    intro a hS
    refine wret ?_
    exact finR T hS hO (fun c h => f0of_zero (by kernel_rfl) h) (fun c h => f0of_else (l := [(i1, 901), (i2, 902), (i3, 903), (i4, 904), (m2, 2002)]) h) (f1of [(i1, 901), (i2, 902), (i3, 903), (i4, 904), (m2, 2002)]) rfl (r := [.int .i64 0, .int .i64 2]) (by kernel_rfl) (fun χ' hM hC => ⟨(0, 2, cap2, cap4), hm, rfl, ((hS.cell (id := 901) (t := 25) (cs := [V (.slice a1 cap1.length c1)]) (by kernel_rfl)).out (f := (f1of [(i1, 901), (i2, 902), (i3, 903), (i4, 904), (m2, 2002)])) hC (by kernel_rfl) (by kernel_rfl) (hP.at 0 rfl)), ((hS.cell (id := 902) (t := 85) (cs := [V (.map (some r2))]) (by kernel_rfl)).out (f := (f1of [(i1, 901), (i2, 902), (i3, 903), (i4, 904), (m2, 2002)])) hC (by kernel_rfl) (by kernel_rfl) (hP.at 1 rfl)), (h2.out (f := (f1of [(i1, 901), (i2, 902), (i3, 903), (i4, 904), (m2, 2002)])) hM hC (by kernel_rfl) (by kernel_rfl)), ((hS.cell (id := 903) (t := 24) (cs := [I cap3.States, I cap3.Kinds, I cap3.Init, V (.slice a3 cap3.Rows.length c3)]) (by kernel_rfl)).out (f := (f1of [(i1, 901), (i2, 902), (i3, 903), (i4, 904), (m2, 2002)])) hC (by kernel_rfl) (by kernel_rfl) (hP.at 2 rfl)), ((hS.cell (id := 904) (t := 3) (cs := [I cap4]) (by kernel_rfl)).out (f := (f1of [(i1, 901), (i2, 902), (i3, 903), (i4, 904), (m2, 2002)])) hC (by kernel_rfl) (by kernel_rfl) (hP.at 3 rfl))⟩)
  · replace hm := hm.2 hb
    refine regO ?_
    refine opsP T hS 3 (sp := []) (ks := [1, 2, 3, 4, 5, 23, 25]) (bs := [6, 901, 902, 903, 904]) (sy' := ⟨[(1, Pt 901 0), (2, Pt 902 0), (3, Pt 903 0), (4, Pt 904 0), (5, Pt 6 0), (23, V (.map (some r2))), (25, I p_.Oper)], [(6, (52, [I p_.Oper, I p_.Result])), (901, (25, [V (.slice a1 cap1.length c1)])), (902, (85, [V (.map (some r2))])), (903, (24, [I cap3.States, I cap3.Kinds, I cap3.Init, V (.slice a3 cap3.Rows.length c3)])), (904, (3, [I cap4]))]⟩) (by kernel_rfl) ?_
    intro a hS
    refine op1 (mlook kI tI false (zv := .int .i64 0) (z := 0) p_.Oper hS (by kernel_rfl) (by kernel_rfl) (by kernel_rfl) (by kernel_rfl) Try.underlying85 Try.underlying3 (by kernel_rfl) rfl h2 ?_)
    intro v101 a hv hS
    replace hv : tI.R _ _ [v101] _ := hv
    cases hv
    refine endP T hS (sp := []) (ks := [1, 2, 3, 4, 5, 22]) (bs := [6, 901, 902, 903, 904]) (sy' := ⟨[(1, Pt 901 0), (2, Pt 902 0), (3, Pt 903 0), (4, Pt 904 0), (5, Pt 6 0), (22, B (decide (((mget cap2 p_.Oper).getD 0) > 0)))], [(6, (52, [I p_.Oper, I p_.Result])), (901, (25, [V (.slice a1 cap1.length c1)])), (902, (85, [V (.map (some r2))])), (903, (24, [I cap3.States, I cap3.Kinds, I cap3.Init, V (.slice a3 cap3.Rows.length c3)])), (904, (3, [I cap4]))]⟩) (by kernel_rfl) ?_
    intro a hS
    refine wcond hS (b := decide (((mget cap2 p_.Oper).getD 0) > 0)) (by kernel_rfl) (fun hb => ?_) (fun hb => ?_)
    · replace hm := hm.1 hb
      refine regP T hS (sp := []) (ks := [6, 7]) (bs := [901, 902, 903, 904]) (sy' := ⟨[(6, I 0), (7, I 21)], [(901, (25, [V (.slice a1 cap1.length c1)])), (902, (85, [V (.map (some r2))])), (903, (24, [I cap3.States, I cap3.Kinds, I cap3.Init, V (.slice a3 cap3.Rows.length c3)])), (904, (3, [I cap4]))]⟩) (by kernel_rfl) ?_
      intro a hS
      refine wret ?_
      exact finR T hS hO (fun c h => f0of_zero (by kernel_rfl) h) (fun c h => f0of_else (l := [(i1, 901), (i2, 902), (i3, 903), (i4, 904), (m2, 2002)]) h) (f1of [(i1, 901), (i2, 902), (i3, 903), (i4, 904), (m2, 2002)]) rfl (r := [.int .i64 0, .int .i64 21]) (by kernel_rfl) (fun χ' hM hC => ⟨(0, 21, cap2, cap4), hm, rfl, ((hS.cell (id := 901) (t := 25) (cs := [V (.slice a1 cap1.length c1)]) (by kernel_rfl)).out (f := (f1of [(i1, 901), (i2, 902), (i3, 903), (i4, 904), (m2, 2002)])) hC (by kernel_rfl) (by kernel_rfl) (hP.at 0 rfl)), ((hS.cell (id := 902) (t := 85) (cs := [V (.map (some r2))]) (by kernel_rfl)).out (f := (f1of [(i1, 901), (i2, 902), (i3, 903), (i4, 904), (m2, 2002)])) hC (by kernel_rfl) (by kernel_rfl) (hP.at 1 rfl)), (h2.out (f := (f1of [(i1, 901), (i2, 902), (i3, 903), (i4, 904), (m2, 2002)])) hM hC (by kernel_rfl) (by kernel_rfl)), ((hS.cell (id := 903) (t := 24) (cs := [I cap3.States, I cap3.Kinds, I cap3.Init, V (.slice a3 cap3.Rows.length c3)]) (by kernel_rfl)).out (f := (f1of [(i1, 901), (i2, 902), (i3, 903), (i4, 904), (m2, 2002)])) hC (by kernel_rfl) (by kernel_rfl) (hP.at 2 rfl)), ((hS.cell (id := 904) (t := 3) (cs := [I cap4]) (by kernel_rfl)).out (f := (f1of [(i1, 901), (i2, 902), (i3, 903), (i4, 904), (m2, 2002)])) hC (by kernel_rfl) (by kernel_rfl) (hP.at 3 rfl))⟩)
    · replace hm := hm.2 hb
      refine wskip ?_
      refine regO ?_
      refine opsP T hS 3 (sp := []) (ks := [1, 3, 4, 5, 28, 30]) (bs := [6, 901, 902, 903, 904]) (sy' := ⟨[(1, Pt 901 0), (3, Pt 903 0), (4, Pt 904 0), (5, Pt 6 0), (28, V (.map (some r2))), (30, I p_.Oper)], [(6, (52, [I p_.Oper, I p_.Result])), (901, (25, [V (.slice a1 cap1.length c1)])), (902, (85, [V (.map (some r2))])), (903, (24, [I cap3.States, I cap3.Kinds, I cap3.Init, V (.slice a3 cap3.Rows.length c3)])), (904, (3, [I cap4]))]⟩) (by kernel_rfl) ?_
      intro a hS
      refine op1 (mlook kI tI false (zv := .int .i64 0) (z := 0) p_.Oper hS (by kernel_rfl) (by kernel_rfl) (by kernel_rfl) (by kernel_rfl) Try.underlying85 Try.underlying3 (by kernel_rfl) rfl h2 ?_)
      intro v102 a hv hS
      replace hv : tI.R _ _ [v102] _ := hv
      cases hv
      refine opsP T hS 1 (sp := []) (ks := [1, 3, 4, 5, 28, 30, 32]) (bs := [6, 901, 902, 903, 904]) (sy' := ⟨[(1, Pt 901 0), (3, Pt 903 0), (4, Pt 904 0), (5, Pt 6 0), (28, V (.map (some r2))), (30, I p_.Oper), (32, I (IntKind.i64.wrap (((mget cap2 p_.Oper).getD 0) + 1)))], [(6, (52, [I p_.Oper, I p_.Result])), (901, (25, [V (.slice a1 cap1.length c1)])), (902, (85, [V (.map (some r2))])), (903, (24, [I cap3.States, I cap3.Kinds, I cap3.Init, V (.slice a3 cap3.Rows.length c3)])), (904, (3, [I cap4]))]⟩) (by kernel_rfl) ?_
      intro a hS
      refine op1 (mset kI tI false (v := I (IntKind.i64.wrap (((mget cap2 p_.Oper).getD 0) + 1))) (u := IntKind.i64.wrap (((mget cap2 p_.Oper).getD 0) + 1)) p_.Oper hS (by kernel_rfl) (by kernel_rfl) (by kernel_rfl) (by kernel_rfl) Try.underlying85 Try.underlying3 (by kernel_rfl) h2 rfl ?_)
      intro a w103 hE h104 hS
      clear h2
      replace hO := hO.mv hE rfl rfl
      replace h1 := h1.mv hE rfl
      replace h3 := h3.mv hE rfl
      clear hE
      refine doneK ?_
      refine regO ?_
      refine opsP T hS 3 (sp := []) (ks := [3, 4, 5, 33, 35]) (bs := [6, 901, 902, 903, 904]) (sy' := ⟨[(3, Pt 903 0), (4, Pt 904 0), (5, Pt 6 0), (33, V (.slice a1 cap1.length c1)), (35, I p_.Oper)], [(6, (52, [I p_.Oper, I p_.Result])), (901, (25, [V (.slice a1 cap1.length c1)])), (902, (85, [V (.map (some r2))])), (903, (24, [I cap3.States, I cap3.Kinds, I cap3.Init, V (.slice a3 cap3.Rows.length c3)])), (904, (3, [I cap4]))]⟩) (by kernel_rfl) ?_
      intro a hS
      obtain ⟨hq, hm⟩ := hm
      refine op1 (index (e := 54) (k := .i64) T hS (by kernel_rfl) (by kernel_rfl) (by kernel_rfl) (by kernel_rfl) h1 (by kernel_rfl) (by kernel_rfl) hq.1 hq.2 ?_)
      intro A105 a h106 hS
      clear hq
      refine op1 (loadA T hS (by kernel_rfl) (by kernel_rfl) (by kernel_rfl) h106 (by kernel_rfl) (by kernel_rfl) ?_)
      intro v107 a hv hS
      subst hv
      refine endM T hS (sp := []) (ks := [3, 4, 5, 8]) (bs := [6, 9, 901, 902, 903, 904]) (sy' := ⟨[(3, Pt 903 0), (4, Pt 904 0), (5, Pt 6 0), (8, Pt 9 0)], [(6, (52, [I p_.Oper, I p_.Result])), (9, (54, [I ((gi cap1 p_.Oper).Prc), I ((gi cap1 p_.Oper).Kind), I ((gi cap1 p_.Oper).Start), I ((gi cap1 p_.Oper).End), I ((gi cap1 p_.Oper).Result)])), (901, (25, [V (.slice a1 cap1.length c1)])), (902, (85, [V (.map (some r2))])), (903, (24, [I cap3.States, I cap3.Kinds, I cap3.Init, V (.slice a3 cap3.Rows.length c3)])), (904, (3, [I cap4]))]⟩) (by kernel_rfl) ?_
      intro ρ a w120 χ121 hS hE hr
      replace hO := hO.mv hE rfl rfl
      replace h1 := h1.mv hE rfl
      replace h3 := h3.mv hE rfl
      replace h104 := h104.mv hE rfl rfl
      replace hP := hP.mv hr (by kernel_rfl)
      clear hE hr
      refine regO ?_
      refine opsP T hS 6 (sp := []) (ks := [4, 5, 8, 39, 40, 42, 44]) (bs := [6, 9, 901, 902, 903, 904]) (sy' := ⟨[(4, Pt 904 0), (5, Pt 6 0), (8, Pt 9 0), (39, V (.agg #[.int .i64 cap3.States, .int .i64 cap3.Kinds, .int .i64 cap3.Init, .slice a3 cap3.Rows.length c3])), (40, I cap4), (42, I ((gi cap1 p_.Oper).Kind)), (44, I p_.Result)], [(6, (52, [I p_.Oper, I p_.Result])), (9, (54, [I ((gi cap1 p_.Oper).Prc), I ((gi cap1 p_.Oper).Kind), I ((gi cap1 p_.Oper).Start), I ((gi cap1 p_.Oper).End), I ((gi cap1 p_.Oper).Result)])), (901, (25, [V (.slice a1 cap1.length c1)])), (902, (85, [V (.map (some r2))])), (903, (24, [I cap3.States, I cap3.Kinds, I cap3.Init, V (.slice a3 cap3.Rows.length c3)])), (904, (3, [I cap4]))]⟩) (by kernel_rfl) ?_
      intro a hS
      refine op1 (call hS (by kernel_rfl) (by kernel_rfl) hb17 (by kernel_rfl) (fun _ _ => rfl) (k17 _ _ cap3 cap4 ((gi cap1 p_.Oper).Kind) p_.Result a3 c3 h3) ?_)
      intro v108 a w109 χ110 hE hp hS
      replace hO := hO.mv hE rfl rfl
      replace h1 := h1.mv hE rfl
      replace h3 := h3.mv hE rfl
      replace h104 := h104.mv hE rfl rfl
      clear hE
      obtain ⟨r111, hr⟩ : ∃ r, run_Step cap3 cap4 ((gi cap1 p_.Oper).Kind) p_.Result = r := ⟨_, rfl⟩
      replace hm := hm r111 hr
      rw [hr] at hp
      clear hr
      subst hp
      refine endP T hS (sp := []) (ks := [4, 5, 8, 9, 10]) (bs := [6, 9, 901, 902, 903, 904]) (sy' := ⟨[(4, Pt 904 0), (5, Pt 6 0), (8, Pt 9 0), (9, I r111.1), (10, I r111.2)], [(6, (52, [I p_.Oper, I p_.Result])), (9, (54, [I ((gi cap1 p_.Oper).Prc), I ((gi cap1 p_.Oper).Kind), I ((gi cap1 p_.Oper).Start), I ((gi cap1 p_.Oper).End), I ((gi cap1 p_.Oper).Result)])), (901, (25, [V (.slice a1 cap1.length c1)])), (902, (85, [V (.map (some r2))])), (903, (24, [I cap3.States, I cap3.Kinds, I cap3.Init, V (.slice a3 cap3.Rows.length c3)])), (904, (3, [I cap4]))]⟩) (by kernel_rfl) ?_
      intro a hS
      refine wcut (fun a w => ∃ (ρ : Nat → Nat) (χ : Nat → Nat) (e_112 : Int), VC68_J1 p_ cap2 cap4 Q r111 e_112 ∧ St Try.f68.ntmps ⟨[(4, Pt 904 0), (9, I r111.1), (10, I e_112)], [(901, (25, [V (.slice a1 cap1.length c1)])), (902, (85, [V (.map (some r2))])), (903, (24, [I cap3.States, I cap3.Kinds, I cap3.Init, V (.slice a3 cap3.Rows.length c3)])), (904, (3, [I cap4]))]⟩ ρ a w χ ∧ OldR (f0of [(i1, 901), (i2, 902), (i3, 903), (i4, 904), (m2, 2002)]) w0 χ0 w χ ∧ Pin [(901, b1), (902, b2), (903, b3), (904, b4)] ρ ∧ RS tApi_Oper w χ a1 cap1 c1 ∧ OM kI tI false w χ 2002 r2 (mput cap2 p_.Oper (IntKind.i64.wrap (((mget cap2 p_.Oper).getD 0) + 1))) ∧ RS tApi_Row w χ a3 cap3.Rows c3) ?_ ?_
      · refine regP T hS (sp := [50, 55]) (ks := [4, 9, 10, 61]) (bs := [901, 902, 903, 904]) (sy' := ⟨[(4, Pt 904 0), (9, I r111.1), (10, I r111.2), (61, B (((r111.2 == 0) && (((gi cap1 p_.Oper).End) != (-1))) && (((gi cap1 p_.Oper).Result) != p_.Result)))], [(901, (25, [V (.slice a1 cap1.length c1)])), (902, (85, [V (.map (some r2))])), (903, (24, [I cap3.States, I cap3.Kinds, I cap3.Init, V (.slice a3 cap3.Rows.length c3)])), (904, (3, [I cap4]))]⟩) (by kernel_rfl) ?_
        intro a hS
        refine wcond hS (b := (((r111.2 == 0) && (((gi cap1 p_.Oper).End) != (-1))) && (((gi cap1 p_.Oper).Result) != p_.Result))) (by kernel_rfl) (fun hb => ?_) (fun hb => ?_)
        · replace hm := hm.1 hb
          refine region (endP T hS (sp := []) (ks := [4, 9, 10]) (bs := [901, 902, 903, 904]) (sy' := ⟨[(4, Pt 904 0), (9, I r111.1), (10, I 40)], [(901, (25, [V (.slice a1 cap1.length c1)])), (902, (85, [V (.map (some r2))])), (903, (24, [I cap3.States, I cap3.Kinds, I cap3.Init, V (.slice a3 cap3.Rows.length c3)])), (904, (3, [I cap4]))]⟩) (by kernel_rfl) ?_)
          intro a hS
          exact ⟨ρ, _, 40, hm, hS.sel [4, 9, 10] [901, 902, 903, 904] (by kernel_rfl), hO, hP, h1, h104, h3⟩
        · replace hm := hm.2 hb
          refine wskip ?_
          exact ⟨ρ, _, r111.2, hm, hS.sel [4, 9, 10] [901, 902, 903, 904] (by kernel_rfl), hO, hP, h1, h104, h3⟩
      · rintro a w119 ⟨ρ, χ118, e_112, hm, hS, hO, hP, h113, h114, h115⟩
        unfold VC68_J1 at hm
        refine wseq ?_
        refine regP T hS (sp := []) (ks := [4, 9, 10, 63]) (bs := [901, 902, 903, 904]) (sy' := ⟨[(4, Pt 904 0), (9, I r111.1), (10, I e_112), (63, B (e_112 != 0))], [(901, (25, [V (.slice a1 cap1.length c1)])), (902, (85, [V (.map (some r2))])), (903, (24, [I cap3.States, I cap3.Kinds, I cap3.Init, V (.slice a3 cap3.Rows.length c3)])), (904, (3, [I cap4]))]⟩) (by kernel_rfl) ?_
        intro a hS
        refine wcond hS (b := (e_112 != 0)) (by kernel_rfl) (fun hb => ?_) (fun hb => ?_)
        · replace hm := hm.1 hb
          refine regP T hS (sp := []) (ks := [6, 7]) (bs := [901, 902, 903, 904]) (sy' := ⟨[(6, I 0), (7, I e_112)], [(901, (25, [V (.slice a1 cap1.length c1)])), (902, (85, [V (.map (some r2))])), (903, (24, [I cap3.States, I cap3.Kinds, I cap3.Init, V (.slice a3 cap3.Rows.length c3)])), (904, (3, [I cap4]))]⟩) (by kernel_rfl) ?_
          intro a hS
          refine wret ?_
          exact finR T hS hO (fun c h => f0of_zero (by kernel_rfl) h) (fun c h => f0of_else (l := [(i1, 901), (i2, 902), (i3, 903), (i4, 904), (m2, 2002)]) h) (f1of [(i1, 901), (i2, 902), (i3, 903), (i4, 904), (m2, 2002)]) rfl (r := [.int .i64 0, .int .i64 e_112]) (by kernel_rfl) (fun χ' hM hC => ⟨(0, e_112, mput cap2 p_.Oper (IntKind.i64.wrap (((mget cap2 p_.Oper).getD 0) + 1)), cap4), hm, rfl, ((hS.cell (id := 901) (t := 25) (cs := [V (.slice a1 cap1.length c1)]) (by kernel_rfl)).out (f := (f1of [(i1, 901), (i2, 902), (i3, 903), (i4, 904), (m2, 2002)])) hC (by kernel_rfl) (by kernel_rfl) (hP.at 0 rfl)), ((hS.cell (id := 902) (t := 85) (cs := [V (.map (some r2))]) (by kernel_rfl)).out (f := (f1of [(i1, 901), (i2, 902), (i3, 903), (i4, 904), (m2, 2002)])) hC (by kernel_rfl) (by kernel_rfl) (hP.at 1 rfl)), (h114.out (f := (f1of [(i1, 901), (i2, 902), (i3, 903), (i4, 904), (m2, 2002)])) hM hC (by kernel_rfl) (by kernel_rfl)), ((hS.cell (id := 903) (t := 24) (cs := [I cap3.States, I cap3.Kinds, I cap3.Init, V (.slice a3 cap3.Rows.length c3)]) (by kernel_rfl)).out (f := (f1of [(i1, 901), (i2, 902), (i3, 903), (i4, 904), (m2, 2002)])) hC (by kernel_rfl) (by kernel_rfl) (hP.at 2 rfl)), ((hS.cell (id := 904) (t := 3) (cs := [I cap4]) (by kernel_rfl)).out (f := (f1of [(i1, 901), (i2, 902), (i3, 903), (i4, 904), (m2, 2002)])) hC (by kernel_rfl) (by kernel_rfl) (hP.at 3 rfl))⟩)
        · replace hm := hm.2 hb
          refine wskip ?_
          refine regM T hS (sp := []) (ks := [9]) (bs := [901, 902, 903, 904]) (sy' := ⟨[(9, I r111.1)], [(901, (25, [V (.slice a1 cap1.length c1)])), (902, (85, [V (.map (some r2))])), (903, (24, [I cap3.States, I cap3.Kinds, I cap3.Init, V (.slice a3 cap3.Rows.length c3)])), (904, (3, [I r111.1]))]⟩) (by kernel_rfl) ?_
          intro ρ a w116 χ117 hS hE hr
          replace hO := hO.mv hE rfl rfl
          replace h113 := h113.mv hE rfl
          replace h114 := h114.mv hE rfl rfl
          replace h115 := h115.mv hE rfl
          replace hP := hP.mv hr (by kernel_rfl)
          clear hE hr
          refine regP T hS (sp := []) (ks := [6, 7]) (bs := [901, 902, 903, 904]) (sy' := ⟨[(6, I r111.1), (7, I 0)], [(901, (25, [V (.slice a1 cap1.length c1)])), (902, (85, [V (.map (some r2))])), (903, (24, [I cap3.States, I cap3.Kinds, I cap3.Init, V (.slice a3 cap3.Rows.length c3)])), (904, (3, [I r111.1]))]⟩) (by kernel_rfl) ?_
          intro a hS
          refine wret ?_
          exact finR T hS hO (fun c h => f0of_zero (by kernel_rfl) h) (fun c h => f0of_else (l := [(i1, 901), (i2, 902), (i3, 903), (i4, 904), (m2, 2002)]) h) (f1of [(i1, 901), (i2, 902), (i3, 903), (i4, 904), (m2, 2002)]) rfl (r := [.int .i64 r111.1, .int .i64 0]) (by kernel_rfl) (fun χ' hM hC => ⟨(r111.1, 0, mput cap2 p_.Oper (IntKind.i64.wrap (((mget cap2 p_.Oper).getD 0) + 1)), r111.1), hm, rfl, ((hS.cell (id := 901) (t := 25) (cs := [V (.slice a1 cap1.length c1)]) (by kernel_rfl)).out (f := (f1of [(i1, 901), (i2, 902), (i3, 903), (i4, 904), (m2, 2002)])) hC (by kernel_rfl) (by kernel_rfl) (hP.at 0 rfl)), ((hS.cell (id := 902) (t := 85) (cs := [V (.map (some r2))]) (by kernel_rfl)).out (f := (f1of [(i1, 901), (i2, 902), (i3, 903), (i4, 904), (m2, 2002)])) hC (by kernel_rfl) (by kernel_rfl) (hP.at 1 rfl)), (h114.out (f := (f1of [(i1, 901), (i2, 902), (i3, 903), (i4, 904), (m2, 2002)])) hM hC (by kernel_rfl) (by kernel_rfl)), ((hS.cell (id := 903) (t := 24) (cs := [I cap3.States, I cap3.Kinds, I cap3.Init, V (.slice a3 cap3.Rows.length c3)]) (by kernel_rfl)).out (f := (f1of [(i1, 901), (i2, 902), (i3, 903), (i4, 904), (m2, 2002)])) hC (by kernel_rfl) (by kernel_rfl) (hP.at 2 rfl)), ((hS.cell (id := 904) (t := 3) (cs := [I r111.1]) (by kernel_rfl)).out (f := (f1of [(i1, 901), (i2, 902), (i3, 903), (i4, 904), (m2, 2002)])) hC (by kernel_rfl) (by kernel_rfl) (hP.at 3 rfl))⟩)
theorem C68 (k17 : S17) (v : ∀ (p_ : Api_Pick) (cap1 : List Api_Oper) (cap2 : List (Int × Int)) (cap3 : Api_Object) (cap4 : Int), VC68 p_ cap1 cap2 cap3 cap4 (fun r => r = run_runner_1 p_ cap1 cap2 cap3 cap4)) : S68 := by
  intro w χ p_ cap1 cap2 cap3 cap4 a1 c1 r2 m2 a3 c3  b1 i1 b2 i2 b3 i3 b4 i4 h1 h2 h3 hc1 hc2 hc3 hc4 hA
  refine (W68 k17 w χ p_ cap1 cap2 cap3 cap4 a1 c1 r2 m2 a3 c3  b1 i1 b2 i2 b3 i3 b4 i4 _ (v p_ cap1 cap2 cap3 cap4) h1 h2 h3 hc1 hc2 hc3 hc4 hA).mono ?_
  rintro _ _ _ _ ⟨r, rfl, h⟩
  exact h
def S45 : Prop := ∀ (w : World) (χ : Nat → Nat) (o_ : Api_Object) (l_ : List Api_Oper) (state : Int) (a1 : Option Addr) (c1 : Nat) (a2 : Option Addr) (c2 : Nat) (col1 : Nat) (col2 : Nat) (col3 : Nat) (col4 : Nat) (col5 : Nat), RS tApi_Row w χ a1 o_.Rows c1 → RS tApi_Oper w χ a2 l_ c2 → Ret Try.prog 45 #[.agg #[.int .i64 o_.States, .int .i64 o_.Kinds, .int .i64 o_.Init, .slice a1 o_.Rows.length c1], .slice a2 l_.length c2, .int .i64 state] xnone w χ (fun w χ' v => ∃ (ra1 : Option Addr) (rc1 : Nat) (rr2 : Nat) (ra3 : Option Addr) (rc3 : Nat) (rb1 : Nat) (rb2 : Nat) (rb3 : Nat) (rb4 : Nat), v = .func (.func 68) #[] #[.pointer (some ⟨rb1, 0, none⟩), .pointer (some ⟨rb2, 0, none⟩), .pointer (some ⟨rb3, 0, none⟩), .pointer (some ⟨rb4, 0, none⟩)] ∧ RS tApi_Oper w χ' ra1 ((run_runner o_ l_ state).1) rc1 ∧ RS tApi_Row w χ' ra3 (((run_runner o_ l_ state).2.2.1).Rows) rc3 ∧ Cell w χ' rb1 col2 25 [.slice ra1 ((run_runner o_ l_ state).1).length rc1] ∧ Cell w χ' rb2 col3 85 [.map (some rr2)] ∧ OM kI tI false w χ' col1 rr2 ((run_runner o_ l_ state).2.1) ∧ Cell w χ' rb3 col4 24 [.int .i64 (((run_runner o_ l_ state).2.2.1).States), .int .i64 (((run_runner o_ l_ state).2.2.1).Kinds), .int .i64 (((run_runner o_ l_ state).2.2.1).Init), .slice ra3 (((run_runner o_ l_ state).2.2.1).Rows).length rc3] ∧ Cell w χ' rb4 col5 3 [.int .i64 ((run_runner o_ l_ state).2.2.2)])
theorem hb45 : hasBody Try.prog 45 = true := by kernel_rfl
/-- replevin/run.runner -/
theorem W45 (w0 : World) (χ0 : Nat → Nat) (o_ : Api_Object) (l_ : List Api_Oper) (state : Int) (a1 : Option Addr) (c1 : Nat) (a2 : Option Addr) (c2 : Nat) (col1 : Nat) (col2 : Nat) (col3 : Nat) (col4 : Nat) (col5 : Nat) (Q : (List Api_Oper) × (List (Int × Int)) × Api_Object × Int → Prop) (hm : VC45 o_ l_ state Q) (h1 : RS tApi_Row w0 χ0 a1 o_.Rows c1) (h2 : RS tApi_Oper w0 χ0 a2 l_ c2) :
    Ret Try.prog 45 #[.agg #[.int .i64 o_.States, .int .i64 o_.Kinds, .int .i64 o_.Init, .slice a1 o_.Rows.length c1], .slice a2 l_.length c2, .int .i64 state] xnone w0 χ0 (fun w χ' v => ∃ r, Q r ∧ ∃ (ra1 : Option Addr) (rc1 : Nat) (rr2 : Nat) (ra3 : Option Addr) (rc3 : Nat) (rb1 : Nat) (rb2 : Nat) (rb3 : Nat) (rb4 : Nat), v = .func (.func 68) #[] #[.pointer (some ⟨rb1, 0, none⟩), .pointer (some ⟨rb2, 0, none⟩), .pointer (some ⟨rb3, 0, none⟩), .pointer (some ⟨rb4, 0, none⟩)] ∧ RS tApi_Oper w χ' ra1 r.1 rc1 ∧ RS tApi_Row w χ' ra3 r.2.2.1.Rows rc3 ∧ Cell w χ' rb1 col2 25 [.slice ra1 r.1.length rc1] ∧ Cell w χ' rb2 col3 85 [.map (some rr2)] ∧ OM kI tI false w χ' col1 rr2 r.2.1 ∧ Cell w χ' rb3 col4 24 [.int .i64 r.2.2.1.States, .int .i64 r.2.2.1.Kinds, .int .i64 r.2.2.1.Init, .slice ra3 r.2.2.1.Rows.length rc3] ∧ Cell w χ' rb4 col5 3 [.int .i64 r.2.2.2]) := by
  unfold VC45 at hm
  replace hm := hm (h1.sm (by kernel_rfl))
  replace hm := hm (h2.sm (by kernel_rfl))
  refine enter Try.func45 rfl (vals := [.agg #[.int .i64 o_.States, .int .i64 o_.Kinds, .int .i64 o_.Init, .slice a1 o_.Rows.length c1], .slice a2 l_.length c2, .int .i64 state]) (by kernel_rfl) ?_
  intro ρ a hS hO hM
  replace h1 := h1.m0 hM
  replace h2 := h2.m0 hM
  clear hM
  refine regM T hS (sp := []) (ks := [3, 4, 5]) (bs := [4, 5, 6]) (sy' := ⟨[(3, Pt 4 0), (4, Pt 5 0), (5, Pt 6 0)], [(4, (24, [I o_.States, I o_.Kinds, I o_.Init, V (.slice a1 o_.Rows.length c1)])), (5, (25, [V (.slice a2 l_.length c2)])), (6, (3, [I state]))]⟩) (by kernel_rfl) ?_
  intro ρ a w107 χ108 hS hE hr
  replace hO := hO.mv hE rfl rfl
  replace h1 := h1.mv hE rfl
  replace h2 := h2.mv hE rfl
  clear hE hr
  refine regO ?_
  refine op1 (mkmap kI tI false 1009 hS (by kernel_rfl) (by kernel_rfl) ?_)
  intro r101 a w102 χ103 hE h104 hS
  replace hO := hO.mv hE rfl rfl
  replace h1 := h1.mv hE rfl
  replace h2 := h2.mv hE rfl
  clear hE
  refine endM T hS (sp := []) (ks := [3, 4, 5, 7]) (bs := [4, 5, 6, 8]) (sy' := ⟨[(3, Pt 4 0), (4, Pt 5 0), (5, Pt 6 0), (7, Pt 8 0)], [(4, (24, [I o_.States, I o_.Kinds, I o_.Init, V (.slice a1 o_.Rows.length c1)])), (5, (25, [V (.slice a2 l_.length c2)])), (6, (3, [I state])), (8, (85, [V (.map (some r101))]))]⟩) (by kernel_rfl) ?_
  intro ρ a w105 χ106 hS hE hr
  replace hO := hO.mv hE rfl rfl
  replace h1 := h1.mv hE rfl
  replace h2 := h2.mv hE rfl
  replace h104 := h104.mv hE rfl rfl
  clear hE hr
  refine regP T hS (sp := []) (ks := [6]) (bs := [4, 5, 6, 8]) (sy' := ⟨[(6, .f (.func 68) [] [.p 5 0, .p 8 0, .p 4 0, .p 6 0])], [(4, (24, [I o_.States, I o_.Kinds, I o_.Init, V (.slice a1 o_.Rows.length c1)])), (5, (25, [V (.slice a2 l_.length c2)])), (6, (3, [I state])), (8, (85, [V (.map (some r101))]))]⟩) (by kernel_rfl) ?_
  intro a hS
  refine wret ?_
  exact fin T hS hO (fun c => (bif Nat.beq c 6 then col5 else (bif Nat.beq c 4 then col4 else (bif Nat.beq c 8 then col3 else (bif Nat.beq c 5 then col2 else (bif Nat.beq c 1009 then col1 else c)))))) rfl (r := [.func (.func 68) #[] #[.pointer (some ⟨ρ 5, 0, none⟩), .pointer (some ⟨ρ 8, 0, none⟩), .pointer (some ⟨ρ 4, 0, none⟩), .pointer (some ⟨ρ 6, 0, none⟩)]]) (by kernel_rfl) (fun χ' hM hC => ⟨(l_, ([] : List (Int × Int)), o_, state), hm, a2, c2, r101, a1, c1, (ρ 5), (ρ 8), (ρ 4), (ρ 6), rfl, h2.m0 hM, h1.m0 hM, ((hS.cell (id := 5) (t := 25) (cs := [V (.slice a2 l_.length c2)]) (by kernel_rfl)).out (f := (fun c => (bif Nat.beq c 6 then col5 else (bif Nat.beq c 4 then col4 else (bif Nat.beq c 8 then col3 else (bif Nat.beq c 5 then col2 else (bif Nat.beq c 1009 then col1 else c))))))) hC (by kernel_rfl) (by kernel_rfl) rfl), ((hS.cell (id := 8) (t := 85) (cs := [V (.map (some r101))]) (by kernel_rfl)).out (f := (fun c => (bif Nat.beq c 6 then col5 else (bif Nat.beq c 4 then col4 else (bif Nat.beq c 8 then col3 else (bif Nat.beq c 5 then col2 else (bif Nat.beq c 1009 then col1 else c))))))) hC (by kernel_rfl) (by kernel_rfl) rfl), (h104.out (f := (fun c => (bif Nat.beq c 6 then col5 else (bif Nat.beq c 4 then col4 else (bif Nat.beq c 8 then col3 else (bif Nat.beq c 5 then col2 else (bif Nat.beq c 1009 then col1 else c))))))) hM hC (by kernel_rfl) (by kernel_rfl)), ((hS.cell (id := 4) (t := 24) (cs := [I o_.States, I o_.Kinds, I o_.Init, V (.slice a1 o_.Rows.length c1)]) (by kernel_rfl)).out (f := (fun c => (bif Nat.beq c 6 then col5 else (bif Nat.beq c 4 then col4 else (bif Nat.beq c 8 then col3 else (bif Nat.beq c 5 then col2 else (bif Nat.beq c 1009 then col1 else c))))))) hC (by kernel_rfl) (by kernel_rfl) rfl), ((hS.cell (id := 6) (t := 3) (cs := [I state]) (by kernel_rfl)).out (f := (fun c => (bif Nat.beq c 6 then col5 else (bif Nat.beq c 4 then col4 else (bif Nat.beq c 8 then col3 else (bif Nat.beq c 5 then col2 else (bif Nat.beq c 1009 then col1 else c))))))) hC (by kernel_rfl) (by kernel_rfl) rfl)⟩)
theorem C45 (v : ∀ (o_ : Api_Object) (l_ : List Api_Oper) (state : Int), VC45 o_ l_ state (fun r => r = run_runner o_ l_ state)) : S45 := by
  intro w χ o_ l_ state a1 c1 a2 c2 col1 col2 col3 col4 col5  h1 h2
  refine (W45 w χ o_ l_ state a1 c1 a2 c2 col1 col2 col3 col4 col5  _ (v o_ l_ state) h1 h2).mono ?_
  rintro _ _ _ _ ⟨r, rfl, h⟩
  exact h
def S16 : Prop := ∀ (w : World) (χ : Nat → Nat) (o_ : Api_Object) (l_ : List Api_Oper) (state : Int) (picks : List Api_Pick) (a1 : Option Addr) (c1 : Nat) (a2 : Option Addr) (c2 : Nat) (a3 : Option Addr) (c3 : Nat), preO3 o_ l_ state picks → RS tApi_Row w χ a1 o_.Rows c1 → RS tApi_Oper w χ a2 l_ c2 → RS tApi_Pick w χ a3 picks c3 → Ret Try.prog 16 #[.agg #[.int .i64 o_.States, .int .i64 o_.Kinds, .int .i64 o_.Init, .slice a1 o_.Rows.length c1], .slice a2 l_.length c2, .int .i64 state, .slice a3 picks.length c3] xnone w χ (fun w χ' v => v = .tuple #[.int .i64 ((run_From o_ l_ state picks).1), .int .i64 ((run_From o_ l_ state picks).2.1), .int .i64 ((run_From o_ l_ state picks).2.2)])
theorem hb16 : hasBody Try.prog 16 = true := by kernel_rfl
/-- replevin/run.From -/
theorem W16 (k44 : S44) (k45 : S45) (k68 : S68) (w0 : World) (χ0 : Nat → Nat) (o_ : Api_Object) (l_ : List Api_Oper) (state : Int) (picks : List Api_Pick) (a1 : Option Addr) (c1 : Nat) (a2 : Option Addr) (c2 : Nat) (a3 : Option Addr) (c3 : Nat) (Q : Int × Int × Int → Prop) (hm : VC16 o_ l_ state picks Q) (h1 : RS tApi_Row w0 χ0 a1 o_.Rows c1) (h2 : RS tApi_Oper w0 χ0 a2 l_ c2) (h3 : RS tApi_Pick w0 χ0 a3 picks c3) :
    Ret Try.prog 16 #[.agg #[.int .i64 o_.States, .int .i64 o_.Kinds, .int .i64 o_.Init, .slice a1 o_.Rows.length c1], .slice a2 l_.length c2, .int .i64 state, .slice a3 picks.length c3] xnone w0 χ0 (fun w χ' v => ∃ r, Q r ∧ v = .tuple #[.int .i64 r.1, .int .i64 r.2.1, .int .i64 r.2.2]) := by
  unfold VC16 at hm
  replace hm := hm (h1.sm (by kernel_rfl))
  replace hm := hm (h2.sm (by kernel_rfl))
  replace hm := hm (h3.sm (by kernel_rfl))
  refine enter Try.func16 rfl (vals := [.agg #[.int .i64 o_.States, .int .i64 o_.Kinds, .int .i64 o_.Init, .slice a1 o_.Rows.length c1], .slice a2 l_.length c2, .int .i64 state, .slice a3 picks.length c3]) (by kernel_rfl) ?_
  intro ρ a hS hO hM
  replace h1 := h1.m0 hM
  replace h2 := h2.m0 hM
  replace h3 := h3.m0 hM
  clear hM
  refine regM T hS (sp := []) (ks := [1, 2, 3, 4]) (bs := [5]) (sy' := ⟨[(1, V (.slice a2 l_.length c2)), (2, I state), (3, V (.slice a3 picks.length c3)), (4, Pt 5 0)], [(5, (24, [I o_.States, I o_.Kinds, I o_.Init, V (.slice a1 o_.Rows.length c1)]))]⟩) (by kernel_rfl) ?_
  intro ρ a w154 χ155 hS hE hr
  replace hO := hO.mv hE rfl rfl
  replace h1 := h1.mv hE rfl
  replace h2 := h2.mv hE rfl
  replace h3 := h3.mv hE rfl
  clear hE hr
  refine wseq ?_
  refine regO ?_
  refine opsP T hS 2 (sp := []) (ks := [1, 2, 3, 4, 17, 18]) (bs := [5]) (sy' := ⟨[(1, V (.slice a2 l_.length c2)), (2, I state), (3, V (.slice a3 picks.length c3)), (4, Pt 5 0), (17, V (.agg #[.int .i64 o_.States, .int .i64 o_.Kinds, .int .i64 o_.Init, .slice a1 o_.Rows.length c1])), (18, I state)], [(5, (24, [I o_.States, I o_.Kinds, I o_.Init, V (.slice a1 o_.Rows.length c1)]))]⟩) (by kernel_rfl) ?_
  intro a hS
  obtain ⟨hq, hm⟩ := hm
  refine op1 (call hS (by kernel_rfl) (by kernel_rfl) hb44 (by kernel_rfl) (fun _ _ => rfl) (k44 _ _ o_ state a1 c1 hq h1) ?_)
  intro v101 a w102 χ103 hE hp hS
  clear hq
  replace hO := hO.mv hE rfl rfl
  replace h1 := h1.mv hE rfl
  replace h2 := h2.mv hE rfl
  replace h3 := h3.mv hE rfl
  clear hE
  obtain ⟨r104, hr⟩ : ∃ r, run_may o_ state = r := ⟨_, rfl⟩
  replace hm := hm r104 hr
  rw [hr] at hp
  clear hr
  subst hp
  refine endP T hS (sp := []) (ks := [1, 2, 3, 4, 11]) (bs := [5]) (sy' := ⟨[(1, V (.slice a2 l_.length c2)), (2, I state), (3, V (.slice a3 picks.length c3)), (4, Pt 5 0), (11, I r104)], [(5, (24, [I o_.States, I o_.Kinds, I o_.Init, V (.slice a1 o_.Rows.length c1)]))]⟩) (by kernel_rfl) ?_
  intro a hS
  refine regP T hS (sp := []) (ks := [1, 2, 3, 4, 11, 21]) (bs := [5]) (sy' := ⟨[(1, V (.slice a2 l_.length c2)), (2, I state), (3, V (.slice a3 picks.length c3)), (4, Pt 5 0), (11, I r104), (21, B (r104 != 0))], [(5, (24, [I o_.States, I o_.Kinds, I o_.Init, V (.slice a1 o_.Rows.length c1)]))]⟩) (by kernel_rfl) ?_
  intro a hS
  refine wcond hS (b := (r104 != 0)) (by kernel_rfl) (fun hb => ?_) (fun hb => ?_)
  · replace hm := hm.1 hb
    refine regP T hS (sp := []) (ks := [8, 9, 10]) (bs := []) (sy' := ⟨[(8, I 0), (9, I (-1)), (10, I r104)], []⟩) (by kernel_rfl) ?_
    intro a hS
    refine wret ?_
    exact fin T hS hO (fun c => c) rfl (r := [.int .i64 0, .int .i64 (-1), .int .i64 r104]) (by kernel_rfl) (fun χ' hM hC => ⟨(0, (-1), r104), hm, rfl⟩)
  · replace hm := hm.2 hb
    refine wskip ?_
    refine regO ?_
    refine opsP T hS 3 (sp := []) (ks := [2, 3, 23, 24, 25]) (bs := []) (sy' := ⟨[(2, I state), (3, V (.slice a3 picks.length c3)), (23, V (.agg #[.int .i64 o_.States, .int .i64 o_.Kinds, .int .i64 o_.Init, .slice a1 o_.Rows.length c1])), (24, V (.slice a2 l_.length c2)), (25, I state)], []⟩) (by kernel_rfl) ?_
    intro a hS
    refine op1 (call hS (by kernel_rfl) (by kernel_rfl) hb45 (by kernel_rfl) (fun _ _ => rfl) (k45 _ _ o_ l_ state a1 c1 a2 c2 2113 701 702 703 704 h1 h2) ?_)
    intro v105 a w106 χ107 hE hp hS
    replace hO := hO.mv hE rfl rfl
    replace h1 := h1.mv hE rfl
    replace h2 := h2.mv hE rfl
    replace h3 := h3.mv hE rfl
    clear hE
    obtain ⟨a109, c110, r113, a114, c115, b117, b118, b119, b120, hp, h111, h116, hc121, hc122, h112, hc123, hc124⟩ := hp
    obtain ⟨r108, hr⟩ : ∃ r, run_runner o_ l_ state = r := ⟨_, rfl⟩
    replace hm := hm r108 hr
    rw [hr] at h111 h116 hc121 hc123 hc124 h112
    clear hr
    subst hp
    replace hm := hm (h111.sm (by kernel_rfl))
    replace hm := hm (h116.sm (by kernel_rfl))
    replace hS := hS.newbox (id := 701) (t := 25) (cs := [V (.slice a109 r108.1.length c110)]) (by kernel_rfl) (by kernel_rfl) hc121 rfl
    replace hS := hS.newbox (id := 702) (t := 85) (cs := [V (.map (some r113))]) (by kernel_rfl) (by kernel_rfl) hc122 rfl
    replace hS := hS.newbox (id := 703) (t := 24) (cs := [I r108.2.2.1.States, I r108.2.2.1.Kinds, I r108.2.2.1.Init, V (.slice a114 r108.2.2.1.Rows.length c115)]) (by kernel_rfl) (by kernel_rfl) hc123 rfl
    replace hS := hS.newbox (id := 704) (t := 3) (cs := [I r108.2.2.2]) (by kernel_rfl) (by kernel_rfl) hc124 rfl
    replace hS := hS.convS (t := 26) (x := V (.func (.func 68) #[] #[.pointer (some ⟨b117, 0, none⟩), .pointer (some ⟨b118, 0, none⟩), .pointer (some ⟨b119, 0, none⟩), .pointer (some ⟨b120, 0, none⟩)])) (y := .f (.func 68) [] [.p 701 0, .p 702 0, .p 703 0, .p 704 0]) (by kernel_rfl) rfl
    generalize (upd (upd (upd (upd ρ 701 b117) 702 b118) 703 b119) 704 b120) = ρ at hS
    clear hc121 hc122 hc123 hc124
    refine endP T hS (sp := []) (ks := [2, 3, 12]) (bs := [701, 702, 703, 704]) (sy' := ⟨[(2, I state), (3, V (.slice a3 picks.length c3)), (12, .f (.func 68) [] [.p 701 0, .p 702 0, .p 703 0, .p 704 0])], [(701, (25, [V (.slice a109 r108.1.length c110)])), (702, (85, [V (.map (some r113))])), (703, (24, [I r108.2.2.1.States, I r108.2.2.1.Kinds, I r108.2.2.1.Init, V (.slice a114 r108.2.2.1.Rows.length c115)])), (704, (3, [I r108.2.2.2]))]⟩) (by kernel_rfl) ?_
    intro a hS
    refine regP T hS (sp := []) (ks := [3, 8, 12]) (bs := [701, 702, 703, 704]) (sy' := ⟨[(3, V (.slice a3 picks.length c3)), (8, I state), (12, .f (.func 68) [] [.p 701 0, .p 702 0, .p 703 0, .p 704 0])], [(701, (25, [V (.slice a109 r108.1.length c110)])), (702, (85, [V (.map (some r113))])), (703, (24, [I r108.2.2.1.States, I r108.2.2.1.Kinds, I r108.2.2.1.Init, V (.slice a114 r108.2.2.1.Rows.length c115)])), (704, (3, [I r108.2.2.2]))]⟩) (by kernel_rfl) ?_
    intro a hS
    refine wcut (fun a w => ∃ (ρ : Nat → Nat) (χ : Nat → Nat) (end_126 : Int), VC16_J1 picks Q end_126 ∧ St Try.f16.ntmps ⟨[(3, V (.slice a3 picks.length c3)), (8, I end_126)], []⟩ ρ a w χ ∧ Old w0 χ0 w χ ∧ RS tApi_Pick w χ a3 picks c3) ?_ ?_
    · refine regP T hS (sp := []) (ks := [3, 8, 12, 28, 29, 30]) (bs := [701, 702, 703, 704]) (sy' := ⟨[(3, V (.slice a3 picks.length c3)), (8, I state), (12, .f (.func 68) [] [.p 701 0, .p 702 0, .p 703 0, .p 704 0]), (28, V (.slice a3 picks.length c3)), (29, I ((picks.length : Nat) : Int)), (30, I 0)], [(701, (25, [V (.slice a109 r108.1.length c110)])), (702, (85, [V (.map (some r113))])), (703, (24, [I r108.2.2.1.States, I r108.2.2.1.Kinds, I r108.2.2.1.Init, V (.slice a114 r108.2.2.1.Rows.length c115)])), (704, (3, [I r108.2.2.2]))]⟩) (by kernel_rfl) ?_
      intro a hS
      refine wblock ?_
      obtain ⟨I1, μ1, hm0, hm⟩ := hm
      refine wloop (σ := Int × Int × (List (Int × Int)) × Int) (fun s a w => ∃ (ρ : Nat → Nat) (χ : Nat → Nat), I1 s.1 s.2.1 s.2.2.1 s.2.2.2 ∧ St Try.f16.ntmps ⟨[(3, V (.slice a3 picks.length c3)), (8, I s.1), (12, .f (.func 68) [] [.p 701 0, .p 702 0, .p 703 0, .p 704 0]), (28, V (.slice a3 picks.length c3)), (29, I ((picks.length : Nat) : Int)), (30, I s.2.1)], [(701, (25, [V (.slice a109 r108.1.length c110)])), (702, (85, [V (.map (some r113))])), (703, (24, [I r108.2.2.1.States, I r108.2.2.1.Kinds, I r108.2.2.1.Init, V (.slice a114 r108.2.2.1.Rows.length c115)])), (704, (3, [I s.2.2.2]))]⟩ ρ a w χ ∧ Old w0 χ0 w χ ∧ RS tApi_Pick w χ a3 picks c3 ∧ RS tApi_Pick w χ a3 picks c3 ∧ RS tApi_Oper w χ a109 r108.1 c110 ∧ OM kI tI false w χ 2113 r113 s.2.2.1 ∧ RS tApi_Row w χ a114 r108.2.2.1.Rows c115) (fun s => μ1 s.1 s.2.1 s.2.2.1 s.2.2.2) (⟨state, 0, r108.2.1, r108.2.2.2⟩) ?_ ?_
      · exact ⟨ρ, _, hm0, hS.sel [3, 8, 12, 28, 29, 30] [701, 702, 703, 704] (by kernel_rfl), hO, h3, h3, h111, h112, h116⟩
      · rintro ⟨end_128, x_130, x_132, x_135⟩ a w151 ⟨ρ, χ150, hI, hS, hO, h127, h129, h131, h133, h134⟩
        replace hm := hm end_128 x_130 x_132 x_135 hI
        clear hI hm0
        refine regP T hS (sp := []) (ks := [3, 8, 12, 28, 29, 30, 31]) (bs := [701, 702, 703, 704]) (sy' := ⟨[(3, V (.slice a3 picks.length c3)), (8, I end_128), (12, .f (.func 68) [] [.p 701 0, .p 702 0, .p 703 0, .p 704 0]), (28, V (.slice a3 picks.length c3)), (29, I ((picks.length : Nat) : Int)), (30, I x_130), (31, B (decide (x_130 < ((picks.length : Nat) : Int))))], [(701, (25, [V (.slice a109 r108.1.length c110)])), (702, (85, [V (.map (some r113))])), (703, (24, [I r108.2.2.1.States, I r108.2.2.1.Kinds, I r108.2.2.1.Init, V (.slice a114 r108.2.2.1.Rows.length c115)])), (704, (3, [I x_135]))]⟩) (by kernel_rfl) ?_
        intro a hS
        refine wseq ?_
        refine wcond hS (b := decide (x_130 < ((picks.length : Nat) : Int))) (by kernel_rfl) (fun hb => ?_) (fun hb => ?_)
        · replace hm := hm.1 hb
          refine wskip ?_
          refine wseq ?_
          refine wblock ?_
          refine regO ?_
          refine opsP T hS 1 (sp := []) (ks := [3, 12, 28, 29, 30, 32]) (bs := [701, 702, 703, 704]) (sy' := ⟨[(3, V (.slice a3 picks.length c3)), (12, .f (.func 68) [] [.p 701 0, .p 702 0, .p 703 0, .p 704 0]), (28, V (.slice a3 picks.length c3)), (29, I ((picks.length : Nat) : Int)), (30, I x_130), (32, I x_130)], [(701, (25, [V (.slice a109 r108.1.length c110)])), (702, (85, [V (.map (some r113))])), (703, (24, [I r108.2.2.1.States, I r108.2.2.1.Kinds, I r108.2.2.1.Init, V (.slice a114 r108.2.2.1.Rows.length c115)])), (704, (3, [I x_135]))]⟩) (by kernel_rfl) ?_
          intro a hS
          obtain ⟨hq, hm⟩ := hm
          refine op1 (index (e := 52) (k := .i64) T hS (by kernel_rfl) (by kernel_rfl) (by kernel_rfl) (by kernel_rfl) h129 (by kernel_rfl) (by kernel_rfl) hq.1 hq.2 ?_)
          intro A136 a h137 hS
          clear hq
          refine op1 (loadA T hS (by kernel_rfl) (by kernel_rfl) (by kernel_rfl) h137 (by kernel_rfl) (by kernel_rfl) ?_)
          intro v138 a hv hS
          subst hv
          refine endM T hS (sp := []) (ks := [3, 12, 13, 14, 28, 29, 30]) (bs := [15, 701, 702, 703, 704]) (sy' := ⟨[(3, V (.slice a3 picks.length c3)), (12, .f (.func 68) [] [.p 701 0, .p 702 0, .p 703 0, .p 704 0]), (13, I x_130), (14, Pt 15 0), (28, V (.slice a3 picks.length c3)), (29, I ((picks.length : Nat) : Int)), (30, I x_130)], [(15, (52, [I ((gi picks x_130).Oper), I ((gi picks x_130).Result)])), (701, (25, [V (.slice a109 r108.1.length c110)])), (702, (85, [V (.map (some r113))])), (703, (24, [I r108.2.2.1.States, I r108.2.2.1.Kinds, I r108.2.2.1.Init, V (.slice a114 r108.2.2.1.Rows.length c115)])), (704, (3, [I x_135]))]⟩) (by kernel_rfl) ?_
          intro ρ a w148 χ149 hS hE hr
          replace hO := hO.mv hE rfl rfl
          replace h127 := h127.mv hE rfl
          replace h129 := h129.mv hE rfl
          replace h131 := h131.mv hE rfl
          replace h133 := h133.mv hE rfl rfl
          replace h134 := h134.mv hE rfl
          clear hE hr
          refine regO ?_
          refine opsP T hS 2 (sp := []) (ks := [3, 12, 13, 28, 29, 30, 36, 37]) (bs := [701, 702, 703, 704]) (sy' := ⟨[(3, V (.slice a3 picks.length c3)), (12, .f (.func 68) [] [.p 701 0, .p 702 0, .p 703 0, .p 704 0]), (13, I x_130), (28, V (.slice a3 picks.length c3)), (29, I ((picks.length : Nat) : Int)), (30, I x_130), (36, .f (.func 68) [] [.p 701 0, .p 702 0, .p 703 0, .p 704 0]), (37, V (.agg #[.int .i64 ((gi picks x_130).Oper), .int .i64 ((gi picks x_130).Result)]))], [(701, (25, [V (.slice a109 r108.1.length c110)])), (702, (85, [V (.map (some r113))])), (703, (24, [I r108.2.2.1.States, I r108.2.2.1.Kinds, I r108.2.2.1.Init, V (.slice a114 r108.2.2.1.Rows.length c115)])), (704, (3, [I x_135]))]⟩) (by kernel_rfl) ?_
          intro a hS
          refine op1 (callCR (fi := []) (cp := [.p 701 0, .p 702 0, .p 703 0, .p 704 0]) hS (by kernel_rfl) (by kernel_rfl) hb68 (by kernel_rfl) (by kernel_rfl) (k68 _ _ (gi picks x_130) r108.1 x_132 r108.2.2.1 x_135 a109 c110 r113 2113 a114 c115 (ρ 701) 701 (ρ 702) 702 (ρ 703) 703 (ρ 704) 704 h131 h133 h134 (hS.cell (id := 701) (t := 25) (cs := [V (.slice a109 r108.1.length c110)]) (by kernel_rfl)) (hS.cell (id := 702) (t := 85) (cs := [V (.map (some r113))]) (by kernel_rfl)) (hS.cell (id := 703) (t := 24) (cs := [I r108.2.2.1.States, I r108.2.2.1.Kinds, I r108.2.2.1.Init, V (.slice a114 r108.2.2.1.Rows.length c115)]) (by kernel_rfl)) (hS.cell (id := 704) (t := 3) (cs := [I x_135]) (by kernel_rfl)) ⟨by decide, by decide⟩) ?_)
          intro v139 a w140 χ141 hE hp hS
          clear h133
          replace hO := hO.mv hE rfl rfl
          replace h127 := h127.mv hE rfl
          replace h129 := h129.mv hE rfl
          replace h131 := h131.mv hE rfl
          replace h134 := h134.mv hE rfl
          clear hE
          obtain ⟨hp, hc144, hc145, h143, hc146, hc147⟩ := hp
          obtain ⟨r142, hr⟩ : ∃ r, run_runner_1 (gi picks x_130) r108.1 x_132 r108.2.2.1 x_135 = r := ⟨_, rfl⟩
          replace hm := hm r142 hr
          rw [hr] at hp hc147 h143
          clear hr
          subst hp
          replace hS := hS.addbox (id := 701) (t := 25) (cs := [V (.slice a109 r108.1.length c110)]) (by kernel_rfl) hc144
          replace hS := hS.addbox (id := 702) (t := 85) (cs := [V (.map (some r113))]) (by kernel_rfl) hc145
          replace hS := hS.addbox (id := 703) (t := 24) (cs := [I r108.2.2.1.States, I r108.2.2.1.Kinds, I r108.2.2.1.Init, V (.slice a114 r108.2.2.1.Rows.length c115)]) (by kernel_rfl) hc146
          replace hS := hS.addbox (id := 704) (t := 3) (cs := [I r142.2.2.2]) (by kernel_rfl) hc147
          clear hc144 hc145 hc146 hc147
          refine endP T hS (sp := []) (ks := [3, 12, 13, 15, 16, 28, 29, 30]) (bs := [701, 702, 703, 704]) (sy' := ⟨[(3, V (.slice a3 picks.length c3)), (12, .f (.func 68) [] [.p 701 0, .p 702 0, .p 703 0, .p 704 0]), (13, I x_130), (15, I r142.1), (16, I r142.2.1), (28, V (.slice a3 picks.length c3)), (29, I ((picks.length : Nat) : Int)), (30, I x_130)], [(701, (25, [V (.slice a109 r108.1.length c110)])), (702, (85, [V (.map (some r113))])), (703, (24, [I r108.2.2.1.States, I r108.2.2.1.Kinds, I r108.2.2.1.Init, V (.slice a114 r108.2.2.1.Rows.length c115)])), (704, (3, [I r142.2.2.2]))]⟩) (by kernel_rfl) ?_
          intro a hS
          refine wseq ?_
          refine regP T hS (sp := []) (ks := [3, 12, 13, 15, 16, 28, 29, 30, 42]) (bs := [701, 702, 703, 704]) (sy' := ⟨[(3, V (.slice a3 picks.length c3)), (12, .f (.func 68) [] [.p 701 0, .p 702 0, .p 703 0, .p 704 0]), (13, I x_130), (15, I r142.1), (16, I r142.2.1), (28, V (.slice a3 picks.length c3)), (29, I ((picks.length : Nat) : Int)), (30, I x_130), (42, B (r142.2.1 != 0))], [(701, (25, [V (.slice a109 r108.1.length c110)])), (702, (85, [V (.map (some r113))])), (703, (24, [I r108.2.2.1.States, I r108.2.2.1.Kinds, I r108.2.2.1.Init, V (.slice a114 r108.2.2.1.Rows.length c115)])), (704, (3, [I r142.2.2.2]))]⟩) (by kernel_rfl) ?_
          intro a hS
          refine wcond hS (b := (r142.2.1 != 0)) (by kernel_rfl) (fun hb => ?_) (fun hb => ?_)
          · replace hm := hm.1 hb
            refine regP T hS (sp := []) (ks := [8, 9, 10]) (bs := []) (sy' := ⟨[(8, I 0), (9, I x_130), (10, I r142.2.1)], []⟩) (by kernel_rfl) ?_
            intro a hS
            refine wret ?_
            exact fin T hS hO (fun c => c) rfl (r := [.int .i64 0, .int .i64 x_130, .int .i64 r142.2.1]) (by kernel_rfl) (fun χ' hM hC => ⟨(0, x_130, r142.2.1), hm, rfl⟩)
          · replace hm := hm.2 hb
            refine wskip ?_
            refine region (endP T hS (sp := []) (ks := [3, 8, 12, 28, 29, 30]) (bs := [701, 702, 703, 704]) (sy' := ⟨[(3, V (.slice a3 picks.length c3)), (8, I r142.1), (12, .f (.func 68) [] [.p 701 0, .p 702 0, .p 703 0, .p 704 0]), (28, V (.slice a3 picks.length c3)), (29, I ((picks.length : Nat) : Int)), (30, I x_130)], [(701, (25, [V (.slice a109 r108.1.length c110)])), (702, (85, [V (.map (some r113))])), (703, (24, [I r108.2.2.1.States, I r108.2.2.1.Kinds, I r108.2.2.1.Init, V (.slice a114 r108.2.2.1.Rows.length c115)])), (704, (3, [I r142.2.2.2]))]⟩) (by kernel_rfl) ?_)
            intro a hS
            refine region (endP T hS (sp := []) (ks := [3, 8, 12, 28, 29, 30]) (bs := [701, 702, 703, 704]) (sy' := ⟨[(3, V (.slice a3 picks.length c3)), (8, I r142.1), (12, .f (.func 68) [] [.p 701 0, .p 702 0, .p 703 0, .p 704 0]), (28, V (.slice a3 picks.length c3)), (29, I ((picks.length : Nat) : Int)), (30, I (IntKind.i64.wrap (x_130 + 1)))], [(701, (25, [V (.slice a109 r108.1.length c110)])), (702, (85, [V (.map (some r113))])), (703, (24, [I r108.2.2.1.States, I r108.2.2.1.Kinds, I r108.2.2.1.Init, V (.slice a114 r108.2.2.1.Rows.length c115)])), (704, (3, [I r142.2.2.2]))]⟩) (by kernel_rfl) ?_)
            intro a hS
            exact ⟨⟨r142.1, IntKind.i64.wrap (x_130 + 1), r142.2.2.1, r142.2.2.2⟩, ⟨ρ, _, hm.1, hS.sel [3, 8, 12, 28, 29, 30] [701, 702, 703, 704] (by kernel_rfl), hO, h127, h129, h131, h143, h134⟩, hm.2⟩
        · replace hm := hm.2 hb
          refine wexit (by rfl) ?_
          exact ⟨ρ, _, end_128, hm, hS.sel [3, 8] [] (by kernel_rfl), hO, h127⟩
    · rintro a w153 ⟨ρ, χ152, end_126, hm, hS, hO, h125⟩
      unfold VC16_J1 at hm
      refine regP T hS (sp := []) (ks := [8, 9, 10]) (bs := []) (sy' := ⟨[(8, I end_126), (9, I ((picks.length : Nat) : Int)), (10, I 0)], []⟩) (by kernel_rfl) ?_
      intro a hS
      refine wret ?_
      exact fin T hS hO (fun c => c) rfl (r := [.int .i64 end_126, .int .i64 ((picks.length : Nat) : Int), .int .i64 0]) (by kernel_rfl) (fun χ' hM hC => ⟨(end_126, ((picks.length : Nat) : Int), 0), hm, rfl⟩)
theorem C16 (k44 : S44) (k45 : S45) (k68 : S68) (v : ∀ (o_ : Api_Object) (l_ : List Api_Oper) (state : Int) (picks : List Api_Pick), preO3 o_ l_ state picks → VC16 o_ l_ state picks (fun r => r = run_From o_ l_ state picks)) : S16 := by
  intro w χ o_ l_ state picks a1 c1 a2 c2 a3 c3   hp h1 h2 h3
  refine (W16 k44 k45 k68 w χ o_ l_ state picks a1 c1 a2 c2 a3 c3   _ (v o_ l_ state picks hp) h1 h2 h3).mono ?_
  rintro _ _ _ _ ⟨r, rfl, h⟩
  exact h
def S14 : Prop := ∀ (w : World) (χ : Nat → Nat) (o_ : Api_Object) (l_ : List Api_Oper) (picks : List Api_Pick) (a1 : Option Addr) (c1 : Nat) (a2 : Option Addr) (c2 : Nat) (a3 : Option Addr) (c3 : Nat), preO2 o_ l_ picks → RS tApi_Row w χ a1 o_.Rows c1 → RS tApi_Oper w χ a2 l_ c2 → RS tApi_Pick w χ a3 picks c3 → Ret Try.prog 14 #[.agg #[.int .i64 o_.States, .int .i64 o_.Kinds, .int .i64 o_.Init, .slice a1 o_.Rows.length c1], .slice a2 l_.length c2, .slice a3 picks.length c3] xnone w χ (fun w χ' v => v = .tuple #[.int .i64 ((run_Picks o_ l_ picks).1), .int .i64 ((run_Picks o_ l_ picks).2.1), .int .i64 ((run_Picks o_ l_ picks).2.2)])
theorem hb14 : hasBody Try.prog 14 = true := by kernel_rfl
/-- replevin/run.Picks -/
theorem W14 (k16 : S16) (w0 : World) (χ0 : Nat → Nat) (o_ : Api_Object) (l_ : List Api_Oper) (picks : List Api_Pick) (a1 : Option Addr) (c1 : Nat) (a2 : Option Addr) (c2 : Nat) (a3 : Option Addr) (c3 : Nat) (Q : Int × Int × Int → Prop) (hm : VC14 o_ l_ picks Q) (h1 : RS tApi_Row w0 χ0 a1 o_.Rows c1) (h2 : RS tApi_Oper w0 χ0 a2 l_ c2) (h3 : RS tApi_Pick w0 χ0 a3 picks c3) :
    Ret Try.prog 14 #[.agg #[.int .i64 o_.States, .int .i64 o_.Kinds, .int .i64 o_.Init, .slice a1 o_.Rows.length c1], .slice a2 l_.length c2, .slice a3 picks.length c3] xnone w0 χ0 (fun w χ' v => ∃ r, Q r ∧ v = .tuple #[.int .i64 r.1, .int .i64 r.2.1, .int .i64 r.2.2]) := by
  unfold VC14 at hm
  replace hm := hm (h1.sm (by kernel_rfl))
  replace hm := hm (h2.sm (by kernel_rfl))
  replace hm := hm (h3.sm (by kernel_rfl))
  refine enter Try.func14 rfl (vals := [.agg #[.int .i64 o_.States, .int .i64 o_.Kinds, .int .i64 o_.Init, .slice a1 o_.Rows.length c1], .slice a2 l_.length c2, .slice a3 picks.length c3]) (by kernel_rfl) ?_
  intro ρ a hS hO hM
  replace h1 := h1.m0 hM
  replace h2 := h2.m0 hM
  replace h3 := h3.m0 hM
  clear hM
  refine regM T hS (sp := []) (ks := [1, 2, 3]) (bs := [4]) (sy' := ⟨[(1, V (.slice a2 l_.length c2)), (2, V (.slice a3 picks.length c3)), (3, Pt 4 0)], [(4, (24, [I o_.States, I o_.Kinds, I o_.Init, V (.slice a1 o_.Rows.length c1)]))]⟩) (by kernel_rfl) ?_
  intro ρ a w105 χ106 hS hE hr
  replace hO := hO.mv hE rfl rfl
  replace h1 := h1.mv hE rfl
  replace h2 := h2.mv hE rfl
  replace h3 := h3.mv hE rfl
  clear hE hr
  refine regO ?_
  refine opsP T hS 5 (sp := []) (ks := [9, 10, 12, 13]) (bs := []) (sy' := ⟨[(9, V (.agg #[.int .i64 o_.States, .int .i64 o_.Kinds, .int .i64 o_.Init, .slice a1 o_.Rows.length c1])), (10, V (.slice a2 l_.length c2)), (12, I o_.Init), (13, V (.slice a3 picks.length c3))], []⟩) (by kernel_rfl) ?_
  intro a hS
  obtain ⟨hq, hm⟩ := hm
  refine op1 (call hS (by kernel_rfl) (by kernel_rfl) hb16 (by kernel_rfl) (fun _ _ => rfl) (k16 _ _ o_ l_ o_.Init picks a1 c1 a2 c2 a3 c3 hq h1 h2 h3) ?_)
  intro v101 a w102 χ103 hE hp hS
  clear hq
  replace hO := hO.mv hE rfl rfl
  replace h1 := h1.mv hE rfl
  replace h2 := h2.mv hE rfl
  replace h3 := h3.mv hE rfl
  clear hE
  obtain ⟨r104, hr⟩ : ∃ r, run_From o_ l_ o_.Init picks = r := ⟨_, rfl⟩
  replace hm := hm r104 hr
  rw [hr] at hp
  clear hr
  subst hp
  refine endP T hS (sp := []) (ks := [6, 7, 8]) (bs := []) (sy' := ⟨[(6, I r104.1), (7, I r104.2.1), (8, I r104.2.2)], []⟩) (by kernel_rfl) ?_
  intro a hS
  refine wret ?_
  exact fin T hS hO (fun c => c) rfl (r := [.int .i64 r104.1, .int .i64 r104.2.1, .int .i64 r104.2.2]) (by kernel_rfl) (fun χ' hM hC => ⟨(r104.1, r104.2.1, r104.2.2), hm, rfl⟩)
theorem C14 (k16 : S16) (v : ∀ (o_ : Api_Object) (l_ : List Api_Oper) (picks : List Api_Pick), preO2 o_ l_ picks → VC14 o_ l_ picks (fun r => r = run_Picks o_ l_ picks)) : S14 := by
  intro w χ o_ l_ picks a1 c1 a2 c2 a3 c3   hp h1 h2 h3
  refine (W14 k16 w χ o_ l_ picks a1 c1 a2 c2 a3 c3   _ (v o_ l_ picks hp) h1 h2 h3).mono ?_
  rintro _ _ _ _ ⟨r, rfl, h⟩
  exact h
end Go.Proofs.Ytnhdgebboafliaa
