/- Walks: each function returns what its condition asks. Condition: the contracts of its callees, handed in. -/
import Derived.Test.YtomodhnocjmfpaaQWalksS
set_option linter.all false
namespace Go.Proofs.Ytomodhnocjmfpaa
open Go Go.Sv
set_option maxHeartbeats 1000000
/-- replevin/replevinref29.Place -/
theorem W42 (w0 : World) (χ0 : Nat → Nat) (picks : List Api_Pick) (i_ : Int) (a1 : Option Addr) (c1 : Nat) (Q : Int → Prop) (hm : VC42 picks i_ Q) (h1 : RS tApi_Pick w0 χ0 a1 picks c1) :
  Ret Try.prog 42 #[.slice a1 picks.length c1, .int .i64 i_] xnone w0 χ0 (fun w χ' v => ∃ r, Q r ∧ v = .int .i64 r) := by
 unfold VC42 at hm
 replace hm := hm (h1.sm kr)
 refine enter Try.func42 rfl (vals := [.slice a1 picks.length c1, .int .i64 i_]) kr ?_
 intro ρ a hS hO hM
 replace h1 := h1.m0 hM
 clear hM
 refine rP T hS ⟨[(0, Sl a1 picks c1), (1, I i_)], []⟩ fun a hS => ?_
 refine wcut (fun a w => ∃ (ρ : Nat → Nat) (χ : Nat → Nat), VC42_J1 Q ∧ St Try.f42.ntmps ⟨[], []⟩ ρ a w χ ∧ Old w0 χ0 w χ) ?_ ?_
 ·refine rP T hS ⟨[(0, Sl a1 picks c1), (1, I i_), (5, I 0)], []⟩ fun a hS => ?_
  refine wblock ?_
  obtain ⟨I1, μ1, hm0, hm⟩ := hm
  refine wloop (σ := Int) (fun s a w => ∃ (ρ : Nat → Nat) (χ : Nat → Nat), I1 s ∧ St Try.f42.ntmps ⟨[(0, Sl a1 picks c1), (1, I i_), (5, I s)], []⟩ ρ a w χ ∧ Old w0 χ0 w χ ∧ RS tApi_Pick w χ a1 picks c1) (fun s => μ1 s) (0) ?_ ?_
  ·exact ⟨ρ, _, hm0, hS.sl _, hO, h1⟩
  ·rintro k_102 a w109 ⟨ρ, χ108, hI, hS, hO, h101⟩
   replace hm := hm k_102 hI
   clear hI hm0
   refine wseq ?_
   refine rP T hS ⟨[(0, Sl a1 picks c1), (1, I i_), (5, I k_102), (9, B (decide (k_102 < ((picks.length : Nat) : Int))))], []⟩ fun a hS => ?_
   refine wcond hS (b := decide (k_102 < ((picks.length : Nat) : Int))) kr (fun hb => ?_) (fun hb => ?_)
   ·replace hm := hm.1 hb
    refine wskip ?_
    refine wseq ?_
    refine wblock ?_
    refine regO ?_
    refine oP T hS 2 ⟨[(0, Sl a1 picks c1), (1, I i_), (5, I k_102), (12, Sl a1 picks c1), (13, I k_102)], []⟩ fun a hS => ?_
    obtain ⟨hq, hm⟩ := hm
    refine op1 (index (e := 51) (k := .i64) T hS kr kr kr kr h101 kr kr hq.1 hq.2 ?_)
    intro A103 a h104 hS
    clear hq
    refine op1 (fieldA (off := 0) (fsz := 1) (ft := 3) (TF := tI) (y := (gi picks k_102).Oper) T hS kr kr kr h104 kr kr kr (fun cs h => Api_Pick_f0 h) ?_)
    intro A105 a h106 hS
    refine op1 (load1 T hS kr kr kr h106 rfl kr ?_)
    intro v107 a hv hS
    cases hv
    refine eP T hS ⟨[(0, Sl a1 picks c1), (1, I i_), (5, I k_102), (18, B (((gi picks k_102).Oper) == i_))], []⟩ fun a hS => ?_
    refine wcond hS (b := (((gi picks k_102).Oper) == i_)) kr (fun hb => ?_) (fun hb => ?_)
    ·replace hm := hm.1 hb
     refine rP T hS ⟨[(4, I k_102)], []⟩ fun a hS => ?_
     refine wret ?_
     exact fin T hS hO (fun c => c) rfl (r := [.int .i64 k_102]) kr (fun χ' hM hC => ⟨k_102, hm, rfl⟩)
    ·replace hm := hm.2 hb
     refine wskip ?_
     refine region (eP T hS ⟨[(0, Sl a1 picks c1), (1, I i_), (5, I (IntKind.i64.wrap (k_102 + 1)))], []⟩ fun a hS => ?_)
     exact ⟨IntKind.i64.wrap (k_102 + 1), ⟨ρ, _, hm.1, hS.sl _, hO, h101⟩, hm.2⟩
   ·replace hm := hm.2 hb
    refine wexit (by rfl) ?_
    exact ⟨ρ, _, hm, hS.sl _, hO⟩
 ·rintro a w111 ⟨ρ, χ110, hm, hS, hO⟩
  unfold VC42_J1 at hm
  refine rP T hS ⟨[(4, I (-1))], []⟩ fun a hS => ?_
  refine wret ?_
  exact fin T hS hO (fun c => c) rfl (r := [.int .i64 (-1)]) kr (fun χ' hM hC => ⟨(-1), hm, rfl⟩)
theorem C42 (v : ∀ (picks : List Api_Pick) (i_ : Int), VC42 picks i_ (fun r => r = ref29_Place picks i_)) : S42 := by
 intro w χ picks i_ a1 c1   h1
 refine (W42 w χ picks i_ a1 c1   _ (v picks i_) h1).mono ?_
 rintro _ _ _ _ ⟨r, rfl, h⟩
 exact h
/-- replevin/replevinref23.Move -/
theorem W41 (w0 : World) (χ0 : Nat → Nat) (o_ : Api_Object) (state : Int) (kind : Int) (a1 : Option Addr) (c1 : Nat) (Q : Int × Int × Bool → Prop) (hm : VC41 o_ state kind Q) (h1 : RS tApi_Row w0 χ0 a1 o_.Rows c1) :
  Ret Try.prog 41 #[.agg #[.int .i64 o_.States, .int .i64 o_.Kinds, .int .i64 o_.Init, .slice a1 o_.Rows.length c1], .int .i64 state, .int .i64 kind] xnone w0 χ0 (fun w χ' v => ∃ r, Q r ∧ v = .tuple #[.int .i64 r.1, .int .i64 r.2.1, .bool r.2.2]) := by
 unfold VC41 at hm
 replace hm := hm (h1.sm kr)
 refine enter Try.func41 rfl (vals := [.agg #[.int .i64 o_.States, .int .i64 o_.Kinds, .int .i64 o_.Init, .slice a1 o_.Rows.length c1], .int .i64 state, .int .i64 kind]) kr ?_
 intro ρ a hS hO hM
 replace h1 := h1.m0 hM
 clear hM
 refine rM T hS ⟨[(1, I state), (2, I kind), (3, Pt 4 0)], [(4, (24, [I o_.States, I o_.Kinds, I o_.Init, Sl a1 o_.Rows c1]))]⟩ fun ρ a w133 χ134 hS hE hr => ?_
 replace hO := hO.mv hE rfl rfl
 replace h1 := h1.mv hE rfl
 clear hE hr
 refine wcut (fun a w => ∃ (ρ : Nat → Nat) (χ : Nat → Nat), VC41_J1 Q ∧ St Try.f41.ntmps ⟨[], []⟩ ρ a w χ ∧ Old w0 χ0 w χ) ?_ ?_
 ·refine rP T hS ⟨[(1, I state), (2, I kind), (3, Pt 4 0), (9, I 0)], [(4, (24, [I o_.States, I o_.Kinds, I o_.Init, Sl a1 o_.Rows c1]))]⟩ fun a hS => ?_
  refine wblock ?_
  obtain ⟨I1, μ1, hm0, hm⟩ := hm
  refine wloop (σ := Int) (fun s a w => ∃ (ρ : Nat → Nat) (χ : Nat → Nat), I1 s ∧ St Try.f41.ntmps ⟨[(1, I state), (2, I kind), (3, Pt 4 0), (9, I s)], [(4, (24, [I o_.States, I o_.Kinds, I o_.Init, Sl a1 o_.Rows c1]))]⟩ ρ a w χ ∧ Old w0 χ0 w χ ∧ RS tApi_Row w χ a1 o_.Rows c1) (fun s => μ1 s) (0) ?_ ?_
  ·exact ⟨ρ, _, hm0, hS.sl _, hO, h1⟩
  ·rintro i_101 a w130 ⟨ρ, χ129, hI, hS, hO, h102⟩
   replace hm := hm i_101 hI
   clear hI hm0
   refine wseq ?_
   refine rP T hS ⟨[(1, I state), (2, I kind), (3, Pt 4 0), (9, I i_101), (14, B (decide (i_101 < ((o_.Rows.length : Nat) : Int))))], [(4, (24, [I o_.States, I o_.Kinds, I o_.Init, Sl a1 o_.Rows c1]))]⟩ fun a hS => ?_
   refine wcond hS (b := decide (i_101 < ((o_.Rows.length : Nat) : Int))) kr (fun hb => ?_) (fun hb => ?_)
   ·replace hm := hm.1 hb
    refine wskip ?_
    refine wseq ?_
    refine wblock ?_
    refine wcut (fun a w => ∃ (ρ : Nat → Nat) (χ : Nat → Nat) (x_103 : Bool), VC41_J2 o_ Q I1 μ1 i_101 x_103 ∧ St Try.f41.ntmps ⟨[(1, I state), (2, I kind), (3, Pt 4 0), (9, I i_101), (34, B x_103)], [(4, (24, [I o_.States, I o_.Kinds, I o_.Init, Sl a1 o_.Rows c1]))]⟩ ρ a w χ ∧ Old w0 χ0 w χ ∧ RS tApi_Row w χ a1 o_.Rows c1) ?_ ?_
    ·refine region ?_
     refine oP T hS 3 ⟨[(1, I state), (2, I kind), (3, Pt 4 0), (9, I i_101), (18, Sl a1 o_.Rows c1), (19, I i_101)], [(4, (24, [I o_.States, I o_.Kinds, I o_.Init, Sl a1 o_.Rows c1]))]⟩ fun a hS => ?_
     obtain ⟨hq, hm⟩ := hm
     refine op1 (index (e := 67) (k := .i64) T hS kr kr kr kr h102 kr kr hq.1 hq.2 ?_)
     intro A117 a h118 hS
     clear hq
     refine op1 (fieldA (off := 0) (fsz := 1) (ft := 3) (TF := tI) (y := (gi o_.Rows i_101).State) T hS kr kr kr h118 kr kr kr (fun cs h => Api_Row_f0 h) ?_)
     intro A119 a h120 hS
     refine op1 (load1 T hS kr kr kr h120 rfl kr ?_)
     intro v121 a hv hS
     cases hv
     refine oP T hS 3 ⟨[(1, I state), (2, I kind), (3, Pt 4 0), (9, I i_101), (25, B (((gi o_.Rows i_101).State) == state))], [(4, (24, [I o_.States, I o_.Kinds, I o_.Init, Sl a1 o_.Rows c1]))]⟩ fun a hS => ?_
     rcases Bool.eq_false_or_eq_true (((gi o_.Rows i_101).State) == state) with hb | hb
     ·replace hS := hS.lit (t := 25) kr hb
      replace hm := hm.1 hb
      refine oP T hS 3 ⟨[(1, I state), (2, I kind), (3, Pt 4 0), (9, I i_101), (25, B true), (26, Pt 4 3), (27, Sl a1 o_.Rows c1), (28, I i_101)], [(4, (24, [I o_.States, I o_.Kinds, I o_.Init, Sl a1 o_.Rows c1]))]⟩ fun a hS => ?_
      obtain ⟨hq, hm⟩ := hm
      refine op1 (index (e := 67) (k := .i64) T hS kr kr kr kr h102 kr kr hq.1 hq.2 ?_)
      intro A122 a h123 hS
      clear hq
      refine op1 (fieldA (off := 1) (fsz := 1) (ft := 3) (TF := tI) (y := (gi o_.Rows i_101).Kind) T hS kr kr kr h123 kr kr kr (fun cs h => Api_Row_f1 h) ?_)
      intro A124 a h125 hS
      refine op1 (load1 T hS kr kr kr h125 rfl kr ?_)
      intro v126 a hv hS
      cases hv
      refine eP T hS ⟨[(1, I state), (2, I kind), (3, Pt 4 0), (9, I i_101), (26, Pt 4 3), (27, Sl a1 o_.Rows c1), (28, I i_101), (29, V (.pointer (some A122))), (30, V (.pointer (some A124))), (31, I ((gi o_.Rows i_101).Kind)), (32, I kind), (33, B (((gi o_.Rows i_101).Kind) == kind)), (34, B (((gi o_.Rows i_101).Kind) == kind))], [(4, (24, [I o_.States, I o_.Kinds, I o_.Init, Sl a1 o_.Rows c1]))]⟩ fun a hS => ?_
      exact ⟨ρ, _, (((gi o_.Rows i_101).Kind) == kind), hm, hS.sl _, hO, h102⟩
     ·replace hS := hS.lit (t := 25) kr hb
      replace hm := hm.2 hb
      refine eP T hS ⟨[(1, I state), (2, I kind), (3, Pt 4 0), (9, I i_101), (34, B false)], [(4, (24, [I o_.States, I o_.Kinds, I o_.Init, Sl a1 o_.Rows c1]))]⟩ fun a hS => ?_
      exact ⟨ρ, _, false, hm, hS.sl _, hO, h102⟩
    ·rintro a w128 ⟨ρ, χ127, x_103, hm, hS, hO, h104⟩
     unfold VC41_J2 at hm
     refine wcond hS (b := x_103) kr (fun hb => ?_) (fun hb => ?_)
     ·replace hm := hm.1 hb
      refine drawnSX [4] mixed hS ?_
      intro w105 χ106 hS hE hD hH
      replace hO := hO.mv hE rfl rfl
      replace h104 := h104.mv hE rfl
      clear hE
      refine tk T [0, 2, 6, 8, 1, 7] [4] hS hH #[true, true, true, false, false, false, true, true, true, false, false, false, false, false, false] 9 ⟨[(36, Sl a1 o_.Rows c1), (37, I i_101), (42, Sl a1 o_.Rows c1), (43, I i_101)], [(4, (24, [I o_.States, I o_.Kinds, I o_.Init, Sl a1 o_.Rows c1]))]⟩ fun a hS => ?_
      obtain ⟨hq, hm⟩ := hm
      refine dindex (e := 67) (k := .i64) T 3 hS kr kr kr (by rfl) kr hH kr kr h104 kr kr hq.1 hq.2 ?_
      intro A107 a h108 hS
      clear hq
      have h108b := h108.here
      refine dfieldA (off := 2) (fsz := 1) (ft := 3) (TF := tI) (y := (gi o_.Rows i_101).Next) 4 T hS kr kr kr (by rfl) kr hH kr h108 kr kr kr (fun cs h => Api_Row_f2 h) ?_
      intro A109 a h110 hbl hS
      have h110b := h108b
      rw [← hbl] at h110b
      clear hbl
      refine dload1 T 5 hS kr kr kr (by rfl) kr hH kr h110 h110b rfl kr ?_
      intro v111 a hv hS
      cases hv
      refine tk T [12] [4] hS hH #[true, true, true, true, true, true, true, true, true, false, false, false, true, false, false] 5 ⟨[(6, I ((gi o_.Rows i_101).Next)), (42, Sl a1 o_.Rows c1), (43, I i_101)], [(4, (24, [I o_.States, I o_.Kinds, I o_.Init, Sl a1 o_.Rows c1]))]⟩ fun a hS => ?_
      obtain ⟨hq, hm⟩ := hm
      refine dindex (e := 67) (k := .i64) T 9 hS kr kr kr (by rfl) kr hH kr kr h104 kr kr hq.1 hq.2 ?_
      intro A112 a h113 hS
      clear hq
      have h113b := h113.here
      refine dfieldA (off := 3) (fsz := 1) (ft := 3) (TF := tI) (y := (gi o_.Rows i_101).Result) 10 T hS kr kr kr (by rfl) kr hH kr h113 kr kr kr (fun cs h => Api_Row_f3 h) ?_
      intro A114 a h115 hbl hS
      have h115b := h113b
      rw [← hbl] at h115b
      clear hbl
      refine dload1 T 11 hS kr kr kr (by rfl) kr hH kr h115 h115b rfl kr ?_
      intro v116 a hv hS
      cases hv
      refine tk T [13, 14] [4] hS hH #[true, true, true, true, true, true, true, true, true, true, true, true, true, true, true] 0 ⟨[(6, I ((gi o_.Rows i_101).Next)), (7, I ((gi o_.Rows i_101).Result)), (8, B true)], [(4, (24, [I o_.States, I o_.Kinds, I o_.Init, Sl a1 o_.Rows c1]))]⟩ fun a hS => ?_
      refine drawnDone kr ?_
      clear hD hH
      replace hS := hS.sl ⟨[(6, I ((gi o_.Rows i_101).Next)), (7, I ((gi o_.Rows i_101).Result)), (8, B true)], []⟩
      refine wret ?_
      exact fin T hS hO (fun c => c) rfl (r := [.int .i64 ((gi o_.Rows i_101).Next), .int .i64 ((gi o_.Rows i_101).Result), .bool true]) kr (fun χ' hM hC => ⟨((gi o_.Rows i_101).Next, (gi o_.Rows i_101).Result, true), hm, rfl⟩)
     ·replace hm := hm.2 hb
      refine wskip ?_
      refine region (eP T hS ⟨[(1, I state), (2, I kind), (3, Pt 4 0), (9, I (IntKind.i64.wrap (i_101 + 1)))], [(4, (24, [I o_.States, I o_.Kinds, I o_.Init, Sl a1 o_.Rows c1]))]⟩ fun a hS => ?_)
      exact ⟨IntKind.i64.wrap (i_101 + 1), ⟨ρ, _, hm.1, hS.sl _, hO, h104⟩, hm.2⟩
   ·replace hm := hm.2 hb
    refine wexit (by rfl) ?_
    exact ⟨ρ, _, hm, hS.sl _, hO⟩
 ·rintro a w132 ⟨ρ, χ131, hm, hS, hO⟩
  unfold VC41_J1 at hm
  refine rP T hS ⟨[(6, I 0), (7, I 0), (8, B false)], []⟩ fun a hS => ?_
  refine wret ?_
  exact fin T hS hO (fun c => c) rfl (r := [.int .i64 0, .int .i64 0, .bool false]) kr (fun χ' hM hC => ⟨(0, 0, false), hm, rfl⟩)
theorem C41 (v : ∀ (o_ : Api_Object) (state : Int) (kind : Int), VC41 o_ state kind (fun r => r = ref23_Move o_ state kind)) : S41 := by
 intro w χ o_ state kind a1 c1   h1
 refine (W41 w χ o_ state kind a1 c1   _ (v o_ state kind) h1).mono ?_
 rintro _ _ _ _ ⟨r, rfl, h⟩
 exact h
/-- replevin/replevinref28.Step -/
theorem W53 (k41 : S41) (w0 : World) (χ0 : Nat → Nat) (o_ : Api_Object) (state : Int) (kind : Int) (result : Int) (a1 : Option Addr) (c1 : Nat) (Q : Int × Int → Prop) (hm : VC53 o_ state kind result Q) (h1 : RS tApi_Row w0 χ0 a1 o_.Rows c1) :
  Ret Try.prog 53 #[.agg #[.int .i64 o_.States, .int .i64 o_.Kinds, .int .i64 o_.Init, .slice a1 o_.Rows.length c1], .int .i64 state, .int .i64 kind, .int .i64 result] xnone w0 χ0 (fun w χ' v => ∃ r, Q r ∧ v = .tuple #[.int .i64 r.1, .int .i64 r.2]) := by
 unfold VC53 at hm
 replace hm := hm (h1.sm kr)
 refine enter Try.func53 rfl (vals := [.agg #[.int .i64 o_.States, .int .i64 o_.Kinds, .int .i64 o_.Init, .slice a1 o_.Rows.length c1], .int .i64 state, .int .i64 kind, .int .i64 result]) kr ?_
 intro ρ a hS hO hM
 replace h1 := h1.m0 hM
 clear hM
 refine rM T hS ⟨[(1, I state), (2, I kind), (3, I result), (4, Pt 5 0)], [(5, (24, [I o_.States, I o_.Kinds, I o_.Init, Sl a1 o_.Rows c1]))]⟩ fun ρ a w105 χ106 hS hE hr => ?_
 replace hO := hO.mv hE rfl rfl
 replace h1 := h1.mv hE rfl
 clear hE hr
 refine wseq ?_
 refine rP T hS ⟨[(1, I state), (2, I kind), (3, I result), (4, Pt 5 0), (20, B ((decide (state < 0)) || (decide (state ≥ o_.States))))], [(5, (24, [I o_.States, I o_.Kinds, I o_.Init, Sl a1 o_.Rows c1]))]⟩ (sp := [15]) fun a hS => ?_
 refine wcond hS (b := ((decide (state < 0)) || (decide (state ≥ o_.States)))) kr (fun hb => ?_) (fun hb => ?_)
 ·replace hm := hm.1 hb
  refine rP T hS ⟨[(8, I 0), (9, I 30)], []⟩ fun a hS => ?_
  refine wret ?_
  exact fin T hS hO (fun c => c) rfl (r := [.int .i64 0, .int .i64 30]) kr (fun χ' hM hC => ⟨(0, 30), hm, rfl⟩)
 ·replace hm := hm.2 hb
  refine wskip ?_
  refine regO ?_
  refine oP T hS 3 ⟨[(3, I result), (22, V (.agg #[.int .i64 o_.States, .int .i64 o_.Kinds, .int .i64 o_.Init, .slice a1 o_.Rows.length c1])), (23, I state), (24, I kind)], []⟩ fun a hS => ?_
  refine op1 (call hS kr kr hb41 kr (fun _ _ => rfl) (k41 _ _ o_ state kind a1 c1 h1) ?_)
  intro v101 a w102 χ103 hE hp hS
  replace hO := hO.mv hE rfl rfl
  replace h1 := h1.mv hE rfl
  clear hE
  obtain ⟨r104, hr⟩ : ∃ r, ref23_Move o_ state kind = r := ⟨_, rfl⟩
  replace hm := hm r104 hr
  rw [hr] at hp
  clear hr
  subst hp
  refine eP T hS ⟨[(3, I result), (10, I r104.1), (11, I r104.2.1), (12, B r104.2.2)], []⟩ fun a hS => ?_
  refine wseq ?_
  refine rP T hS ⟨[(10, I r104.1), (35, B ((!r104.2.2) || (r104.2.1 != result)))], []⟩ (sp := [31]) fun a hS => ?_
  refine wcond hS (b := ((!r104.2.2) || (r104.2.1 != result))) kr (fun hb => ?_) (fun hb => ?_)
  ·replace hm := hm.1 hb
   refine rP T hS ⟨[(8, I 0), (9, I 40)], []⟩ fun a hS => ?_
   refine wret ?_
   exact fin T hS hO (fun c => c) rfl (r := [.int .i64 0, .int .i64 40]) kr (fun χ' hM hC => ⟨(0, 40), hm, rfl⟩)
  ·replace hm := hm.2 hb
   refine wskip ?_
   refine rP T hS ⟨[(8, I r104.1), (9, I 0)], []⟩ fun a hS => ?_
   refine wret ?_
   exact fin T hS hO (fun c => c) rfl (r := [.int .i64 r104.1, .int .i64 0]) kr (fun χ' hM hC => ⟨(r104.1, 0), hm, rfl⟩)
theorem C53 (k41 : S41) (v : ∀ (o_ : Api_Object) (state : Int) (kind : Int) (result : Int), VC53 o_ state kind result (fun r => r = ref28_Step o_ state kind result)) : S53 := by
 intro w χ o_ state kind result a1 c1   h1
 refine (W53 k41 w χ o_ state kind result a1 c1   _ (v o_ state kind result) h1).mono ?_
 rintro _ _ _ _ ⟨r, rfl, h⟩
 exact h
/-- replevin/replevinref23.Check -/
theorem W23 (w0 : World) (χ0 : Nat → Nat) (o_ : Api_Object) (a1 : Option Addr) (c1 : Nat) (Q : Int × Int → Prop) (hm : VC23 o_ Q) (h1 : RS tApi_Row w0 χ0 a1 o_.Rows c1) :
  Ret Try.prog 23 #[.agg #[.int .i64 o_.States, .int .i64 o_.Kinds, .int .i64 o_.Init, .slice a1 o_.Rows.length c1]] xnone w0 χ0 (fun w χ' v => ∃ r, Q r ∧ v = .tuple #[.int .i64 r.1, .int .i64 r.2]) := by
 unfold VC23 at hm
 replace hm := hm (h1.sm kr)
 refine enter Try.func23 rfl (vals := [.agg #[.int .i64 o_.States, .int .i64 o_.Kinds, .int .i64 o_.Init, .slice a1 o_.Rows.length c1]]) kr ?_
 intro ρ a hS hO hM
 replace h1 := h1.m0 hM
 clear hM
 refine rM T hS ⟨[(1, Pt 2 0)], [(2, (24, [I o_.States, I o_.Kinds, I o_.Init, Sl a1 o_.Rows c1]))]⟩ fun ρ a w134 χ135 hS hE hr => ?_
 replace hO := hO.mv hE rfl rfl
 replace h1 := h1.mv hE rfl
 clear hE hr
 refine wseq ?_
 refine rP T hS ⟨[(1, Pt 2 0), (35, B ((((((decide (o_.States < 1)) || (decide (o_.States > 32))) || (decide (o_.Kinds < 1))) || (decide (o_.Kinds > 64))) || (decide (o_.Init < 0))) || (decide (o_.Init ≥ o_.States))))], [(2, (24, [I o_.States, I o_.Kinds, I o_.Init, Sl a1 o_.Rows c1]))]⟩ (sp := [9, 14, 19, 24, 29]) fun a hS => ?_
 refine wcond hS (b := ((((((decide (o_.States < 1)) || (decide (o_.States > 32))) || (decide (o_.Kinds < 1))) || (decide (o_.Kinds > 64))) || (decide (o_.Init < 0))) || (decide (o_.Init ≥ o_.States)))) kr (fun hb => ?_) (fun hb => ?_)
 ·replace hm := hm.1 hb
  refine rP T hS ⟨[(2, I (-1)), (3, I 2)], []⟩ fun a hS => ?_
  refine wret ?_
  exact fin T hS hO (fun c => c) rfl (r := [.int .i64 (-1), .int .i64 2]) kr (fun χ' hM hC => ⟨((-1), 2), hm, rfl⟩)
 ·replace hm := hm.2 hb
  refine wskip ?_
  refine wcut (fun a w => ∃ (ρ : Nat → Nat) (χ : Nat → Nat), VC23_J1 o_ Q ∧ St Try.f23.ntmps ⟨[(1, Pt 2 0)], [(2, (24, [I o_.States, I o_.Kinds, I o_.Init, Sl a1 o_.Rows c1]))]⟩ ρ a w χ ∧ Old w0 χ0 w χ ∧ RS tApi_Row w χ a1 o_.Rows c1) ?_ ?_
  ·refine rP T hS ⟨[(1, Pt 2 0), (4, I 0)], [(2, (24, [I o_.States, I o_.Kinds, I o_.Init, Sl a1 o_.Rows c1]))]⟩ fun a hS => ?_
   refine wblock ?_
   obtain ⟨I1, μ1, hm0, hm⟩ := hm
   refine wloop (σ := Int) (fun s a w => ∃ (ρ : Nat → Nat) (χ : Nat → Nat), I1 s ∧ St Try.f23.ntmps ⟨[(1, Pt 2 0), (4, I s)], [(2, (24, [I o_.States, I o_.Kinds, I o_.Init, Sl a1 o_.Rows c1]))]⟩ ρ a w χ ∧ Old w0 χ0 w χ ∧ RS tApi_Row w χ a1 o_.Rows c1) (fun s => μ1 s) (0) ?_ ?_
   ·exact ⟨ρ, _, hm0, hS.sl _, hO, h1⟩
   ·rintro i_102 a w131 ⟨ρ, χ130, hI, hS, hO, h103⟩
    replace hm := hm i_102 hI
    clear hI hm0
    refine wseq ?_
    refine rP T hS ⟨[(1, Pt 2 0), (4, I i_102), (40, B (decide (i_102 < ((o_.Rows.length : Nat) : Int))))], [(2, (24, [I o_.States, I o_.Kinds, I o_.Init, Sl a1 o_.Rows c1]))]⟩ fun a hS => ?_
    refine wcond hS (b := decide (i_102 < ((o_.Rows.length : Nat) : Int))) kr (fun hb => ?_) (fun hb => ?_)
    ·replace hm := hm.1 hb
     refine wskip ?_
     refine wseq ?_
     refine wblock ?_
     refine regO ?_
     refine oP T hS 3 ⟨[(1, Pt 2 0), (4, I i_102), (44, Sl a1 o_.Rows c1), (45, I i_102)], [(2, (24, [I o_.States, I o_.Kinds, I o_.Init, Sl a1 o_.Rows c1]))]⟩ fun a hS => ?_
     obtain ⟨hq, hm⟩ := hm
     refine op1 (index (e := 67) (k := .i64) T hS kr kr kr kr h103 kr kr hq.1 hq.2 ?_)
     intro A104 a h105 hS
     clear hq
     refine op1 (loadA T hS kr kr kr h105 kr kr ?_)
     intro v106 a hv hS
     subst hv
     refine eM T hS ⟨[(1, Pt 2 0), (4, I i_102), (5, Pt 6 0)], [(2, (24, [I o_.States, I o_.Kinds, I o_.Init, Sl a1 o_.Rows c1])), (6, (67, [I ((gi o_.Rows i_102).State), I ((gi o_.Rows i_102).Kind), I ((gi o_.Rows i_102).Next), I ((gi o_.Rows i_102).Result)]))]⟩ fun ρ a w128 χ129 hS hE hr => ?_
     replace hO := hO.mv hE rfl rfl
     replace h103 := h103.mv hE rfl
     clear hE hr
     refine wseq ?_
     refine rP T hS ⟨[(1, Pt 2 0), (4, I i_102), (5, Pt 6 0), (69, B ((((decide (((gi o_.Rows i_102).State) < 0)) || (decide (((gi o_.Rows i_102).State) ≥ o_.States))) || (decide (((gi o_.Rows i_102).Next) < 0))) || (decide (((gi o_.Rows i_102).Next) ≥ o_.States))))], [(2, (24, [I o_.States, I o_.Kinds, I o_.Init, Sl a1 o_.Rows c1])), (6, (67, [I ((gi o_.Rows i_102).State), I ((gi o_.Rows i_102).Kind), I ((gi o_.Rows i_102).Next), I ((gi o_.Rows i_102).Result)]))]⟩ (sp := [51, 58, 63]) fun a hS => ?_
     refine wcond hS (b := ((((decide (((gi o_.Rows i_102).State) < 0)) || (decide (((gi o_.Rows i_102).State) ≥ o_.States))) || (decide (((gi o_.Rows i_102).Next) < 0))) || (decide (((gi o_.Rows i_102).Next) ≥ o_.States)))) kr (fun hb => ?_) (fun hb => ?_)
     ·replace hm := hm.1 hb
      refine rP T hS ⟨[(2, I i_102), (3, I 30)], []⟩ fun a hS => ?_
      refine wret ?_
      exact fin T hS hO (fun c => c) rfl (r := [.int .i64 i_102, .int .i64 30]) kr (fun χ' hM hC => ⟨(i_102, 30), hm, rfl⟩)
     ·replace hm := hm.2 hb
      refine wskip ?_
      refine wseq ?_
      refine rP T hS ⟨[(1, Pt 2 0), (4, I i_102), (5, Pt 6 0), (80, B ((decide (((gi o_.Rows i_102).Kind) < 0)) || (decide (((gi o_.Rows i_102).Kind) ≥ o_.Kinds))))], [(2, (24, [I o_.States, I o_.Kinds, I o_.Init, Sl a1 o_.Rows c1])), (6, (67, [I ((gi o_.Rows i_102).State), I ((gi o_.Rows i_102).Kind), I ((gi o_.Rows i_102).Next), I ((gi o_.Rows i_102).Result)]))]⟩ (sp := [74]) fun a hS => ?_
      refine wcond hS (b := ((decide (((gi o_.Rows i_102).Kind) < 0)) || (decide (((gi o_.Rows i_102).Kind) ≥ o_.Kinds)))) kr (fun hb => ?_) (fun hb => ?_)
      ·replace hm := hm.1 hb
       refine rP T hS ⟨[(2, I i_102), (3, I 31)], []⟩ fun a hS => ?_
       refine wret ?_
       exact fin T hS hO (fun c => c) rfl (r := [.int .i64 i_102, .int .i64 31]) kr (fun χ' hM hC => ⟨(i_102, 31), hm, rfl⟩)
      ·replace hm := hm.2 hb
       refine wskip ?_
       refine wseq ?_
       refine rP T hS ⟨[(1, Pt 2 0), (4, I i_102), (5, Pt 6 0), (89, B ((decide (((gi o_.Rows i_102).Result) < 0)) || (decide (((gi o_.Rows i_102).Result) > 1000000))))], [(2, (24, [I o_.States, I o_.Kinds, I o_.Init, Sl a1 o_.Rows c1])), (6, (67, [I ((gi o_.Rows i_102).State), I ((gi o_.Rows i_102).Kind), I ((gi o_.Rows i_102).Next), I ((gi o_.Rows i_102).Result)]))]⟩ (sp := [85]) fun a hS => ?_
       refine wcond hS (b := ((decide (((gi o_.Rows i_102).Result) < 0)) || (decide (((gi o_.Rows i_102).Result) > 1000000)))) kr (fun hb => ?_) (fun hb => ?_)
       ·replace hm := hm.1 hb
        refine rP T hS ⟨[(2, I i_102), (3, I 7)], []⟩ fun a hS => ?_
        refine wret ?_
        exact fin T hS hO (fun c => c) rfl (r := [.int .i64 i_102, .int .i64 7]) kr (fun χ' hM hC => ⟨(i_102, 7), hm, rfl⟩)
       ·replace hm := hm.2 hb
        refine wskip ?_
        refine wcut (fun a w => ∃ (ρ : Nat → Nat) (χ : Nat → Nat) (x_107 : Bool), VC23_J2 Q I1 μ1 i_102 x_107 ∧ St Try.f23.ntmps ⟨[(1, Pt 2 0), (4, I i_102), (128, B x_107)], [(2, (24, [I o_.States, I o_.Kinds, I o_.Init, Sl a1 o_.Rows c1]))]⟩ ρ a w χ ∧ Old w0 χ0 w χ ∧ RS tApi_Row w χ a1 o_.Rows c1) ?_ ?_
        ·refine drawnX [2, 6] mixed hS ?_
         intro w109 χ110 hS hE hD hH
         replace hO := hO.mv hE rfl rfl
         replace h103 := h103.mv hE rfl
         clear hE
         refine take T [0, 1, 2] [2, 6] [1, 4, 5, 93] hS kr kr kr hH (listed' := #[true, true, true, false, false, false, false, false, false, false, false, false, false, false, false, false, false, false, false, false, false, false, false, false, false, false, false, false, false, false, false, false, false, false, false, false, false, false]) (fuel := 35) (sy' := ⟨[(1, Pt 2 0), (4, I i_102), (5, Pt 6 0), (93, B (decide (i_102 > 0)))], [(2, (24, [I o_.States, I o_.Kinds, I o_.Init, Sl a1 o_.Rows c1])), (6, (67, [I ((gi o_.Rows i_102).State), I ((gi o_.Rows i_102).Kind), I ((gi o_.Rows i_102).Next), I ((gi o_.Rows i_102).Result)]))]⟩) (by as_aux_lemma => kernel_rfl) (by rfl) ?_
         intro a hS
         rcases Bool.eq_false_or_eq_true (decide (i_102 > 0)) with hb | hb
         ·replace hS := hS.lit (t := 93) kr hb
          replace hm := hm.1 hb
          refine take T [3, 5, 10, 4, 6, 11] [2, 6] [1, 4, 5, 93, 94, 95, 96, 97, 101, 102] hS kr kr kr hH (listed' := #[true, true, true, true, true, true, true, false, false, false, true, true, false, false, false, false, false, false, false, false, false, false, false, false, false, false, false, false, false, false, false, false, false, false, false, false, false, false]) (fuel := 29) (sy' := ⟨[(1, Pt 2 0), (4, I i_102), (5, Pt 6 0), (93, B true), (94, Pt 2 3), (95, Sl a1 o_.Rows c1), (96, I i_102), (97, I (IntKind.i64.wrap (i_102 - 1))), (101, Pt 6 0), (102, I ((gi o_.Rows i_102).State))], [(2, (24, [I o_.States, I o_.Kinds, I o_.Init, Sl a1 o_.Rows c1])), (6, (67, [I ((gi o_.Rows i_102).State), I ((gi o_.Rows i_102).Kind), I ((gi o_.Rows i_102).Next), I ((gi o_.Rows i_102).Result)]))]⟩) (by as_aux_lemma => kernel_rfl) (by rfl) ?_
          intro a hS
          obtain ⟨hq, hm⟩ := hm
          refine dindex (e := 67) (k := .i64) T 7 hS kr kr kr (by rfl) kr hH kr kr h103 kr kr hq.1 hq.2 ?_
          intro A111 a h112 hS
          clear hq
          have h112b := h112.here
          refine dfieldA (off := 0) (fsz := 1) (ft := 3) (TF := tI) (y := (gi o_.Rows (IntKind.i64.wrap (i_102 - 1))).State) 8 T hS kr kr kr (by rfl) kr hH kr h112 kr kr kr (fun cs h => Api_Row_f0 h) ?_
          intro A113 a h114 hbl hS
          have h114b := h112b
          rw [← hbl] at h114b
          clear hbl
          refine dload1 T 9 hS kr kr kr (by rfl) kr hH kr h114 h114b rfl kr ?_
          intro v115 a hv hS
          cases hv
          refine take T [12, 13] [2, 6] [1, 4, 5, 93, 94, 95, 96, 97, 98, 99, 100, 101, 102, 103, 104] hS kr kr kr hH (listed' := #[true, true, true, true, true, true, true, true, true, true, true, true, true, true, false, false, false, false, false, false, false, false, false, false, false, false, false, false, false, false, false, false, false, false, false, false, false, false]) (fuel := 24) (sy' := ⟨[(1, Pt 2 0), (4, I i_102), (5, Pt 6 0), (93, B true), (94, Pt 2 3), (95, Sl a1 o_.Rows c1), (96, I i_102), (97, I (IntKind.i64.wrap (i_102 - 1))), (98, V (.pointer (some A111))), (99, V (.pointer (some A113))), (100, I ((gi o_.Rows (IntKind.i64.wrap (i_102 - 1))).State)), (101, Pt 6 0), (102, I ((gi o_.Rows i_102).State)), (103, B (decide (((gi o_.Rows (IntKind.i64.wrap (i_102 - 1))).State) > ((gi o_.Rows i_102).State)))), (104, B (decide (((gi o_.Rows (IntKind.i64.wrap (i_102 - 1))).State) > ((gi o_.Rows i_102).State))))], [(2, (24, [I o_.States, I o_.Kinds, I o_.Init, Sl a1 o_.Rows c1])), (6, (67, [I ((gi o_.Rows i_102).State), I ((gi o_.Rows i_102).Kind), I ((gi o_.Rows i_102).Next), I ((gi o_.Rows i_102).Result)]))]⟩) (by as_aux_lemma => kernel_rfl) (by rfl) ?_
          intro a hS
          rcases Bool.eq_false_or_eq_true (decide (((gi o_.Rows (IntKind.i64.wrap (i_102 - 1))).State) > ((gi o_.Rows i_102).State))) with hb | hb
          ·replace hS := hS.lit (t := 104) kr hb
           replace hm := hm.1 hb
           refine take T [14, 16, 21, 15, 17, 22, 18, 19, 20, 23, 24, 25, 27, 32, 26, 28, 33, 29, 30, 31, 34, 35, 36, 37] [2, 6] [1, 4, 94, 95, 96, 97, 98, 99, 100, 101, 102, 103, 104, 105, 106, 107, 108, 109, 110, 111, 112, 113, 114, 115, 116, 117, 118, 119, 120, 121, 122, 123, 124, 125, 126, 127, 128] hS kr kr kr hH (listed' := #[true, true, true, true, true, true, true, true, true, true, true, true, true, true, true, true, true, true, true, true, true, true, true, true, true, true, true, true, true, true, true, true, true, true, true, true, true, true]) (fuel := 0) (sy' := ⟨[(1, Pt 2 0), (4, I i_102), (94, Pt 2 3), (95, Sl a1 o_.Rows c1), (96, I i_102), (97, I (IntKind.i64.wrap (i_102 - 1))), (98, V (.pointer (some A111))), (99, V (.pointer (some A113))), (100, I ((gi o_.Rows (IntKind.i64.wrap (i_102 - 1))).State)), (101, Pt 6 0), (102, I ((gi o_.Rows i_102).State)), (103, B (decide (((gi o_.Rows (IntKind.i64.wrap (i_102 - 1))).State) > ((gi o_.Rows i_102).State)))), (104, B true), (105, V undef), (106, V undef), (107, V undef), (108, V undef), (109, V undef), (110, V undef), (111, V undef), (112, V undef), (113, V undef), (114, V undef), (115, V undef), (116, V undef), (117, V undef), (118, V undef), (119, V undef), (120, V undef), (121, V undef), (122, V undef), (123, V undef), (124, V undef), (125, V undef), (126, V undef), (127, B true), (128, B true)], [(2, (24, [I o_.States, I o_.Kinds, I o_.Init, Sl a1 o_.Rows c1])), (6, (67, [I ((gi o_.Rows i_102).State), I ((gi o_.Rows i_102).Kind), I ((gi o_.Rows i_102).Next), I ((gi o_.Rows i_102).Result)]))]⟩) (by as_aux_lemma => kernel_rfl) (by rfl) ?_
           intro a hS
           refine drawnDone kr ?_
           clear hD hH
           replace hS := hS.sl ⟨[(1, Pt 2 0), (4, I i_102), (94, Pt 2 3), (95, Sl a1 o_.Rows c1), (96, I i_102), (97, I (IntKind.i64.wrap (i_102 - 1))), (98, V (.pointer (some A111))), (99, V (.pointer (some A113))), (100, I ((gi o_.Rows (IntKind.i64.wrap (i_102 - 1))).State)), (101, Pt 6 0), (102, I ((gi o_.Rows i_102).State)), (103, B (decide (((gi o_.Rows (IntKind.i64.wrap (i_102 - 1))).State) > ((gi o_.Rows i_102).State)))), (104, B true), (127, B true), (128, B true)], [(2, (24, [I o_.States, I o_.Kinds, I o_.Init, Sl a1 o_.Rows c1])), (6, (67, [I ((gi o_.Rows i_102).State), I ((gi o_.Rows i_102).Kind), I ((gi o_.Rows i_102).Next), I ((gi o_.Rows i_102).Result)]))]⟩
           exact ⟨ρ, _, true, hm, hS.sl _, hO, h103⟩
          ·replace hS := hS.lit (t := 104) kr hb
           replace hm := hm.2 hb
           refine take T [14, 16, 21, 15, 17, 22] [2, 6] [1, 4, 5, 93, 94, 95, 96, 97, 98, 99, 100, 101, 102, 103, 104, 105, 106, 107, 108, 112, 113] hS kr kr kr hH (listed' := #[true, true, true, true, true, true, true, true, true, true, true, true, true, true, true, true, true, true, false, false, false, true, true, false, false, false, false, false, false, false, false, false, false, false, false, false, false, false]) (fuel := 18) (sy' := ⟨[(1, Pt 2 0), (4, I i_102), (5, Pt 6 0), (93, B true), (94, Pt 2 3), (95, Sl a1 o_.Rows c1), (96, I i_102), (97, I (IntKind.i64.wrap (i_102 - 1))), (98, V (.pointer (some A111))), (99, V (.pointer (some A113))), (100, I ((gi o_.Rows (IntKind.i64.wrap (i_102 - 1))).State)), (101, Pt 6 0), (102, I ((gi o_.Rows i_102).State)), (103, B (decide (((gi o_.Rows (IntKind.i64.wrap (i_102 - 1))).State) > ((gi o_.Rows i_102).State)))), (104, B false), (105, Pt 2 3), (106, Sl a1 o_.Rows c1), (107, I i_102), (108, I (IntKind.i64.wrap (i_102 - 1))), (112, Pt 6 0), (113, I ((gi o_.Rows i_102).State))], [(2, (24, [I o_.States, I o_.Kinds, I o_.Init, Sl a1 o_.Rows c1])), (6, (67, [I ((gi o_.Rows i_102).State), I ((gi o_.Rows i_102).Kind), I ((gi o_.Rows i_102).Next), I ((gi o_.Rows i_102).Result)]))]⟩) (by as_aux_lemma => kernel_rfl) (by rfl) ?_
           intro a hS
           obtain ⟨hq, hm⟩ := hm
           refine dindex (e := 67) (k := .i64) T 18 hS kr kr kr (by rfl) kr hH kr kr h103 kr kr hq.1 hq.2 ?_
           intro A116 a h117 hS
           clear hq
           have h117b := h117.here
           refine dfieldA (off := 0) (fsz := 1) (ft := 3) (TF := tI) (y := (gi o_.Rows (IntKind.i64.wrap (i_102 - 1))).State) 19 T hS kr kr kr (by rfl) kr hH kr h117 kr kr kr (fun cs h => Api_Row_f0 h) ?_
           intro A118 a h119 hbl hS
           have h119b := h117b
           rw [← hbl] at h119b
           clear hbl
           refine dload1 T 20 hS kr kr kr (by rfl) kr hH kr h119 h119b rfl kr ?_
           intro v120 a hv hS
           cases hv
           refine take T [23, 24] [2, 6] [1, 4, 5, 93, 94, 95, 96, 97, 98, 99, 100, 101, 102, 103, 104, 105, 106, 107, 108, 109, 110, 111, 112, 113, 114, 115] hS kr kr kr hH (listed' := #[true, true, true, true, true, true, true, true, true, true, true, true, true, true, true, true, true, true, true, true, true, true, true, true, true, false, false, false, false, false, false, false, false, false, false, false, false, false]) (fuel := 13) (sy' := ⟨[(1, Pt 2 0), (4, I i_102), (5, Pt 6 0), (93, B true), (94, Pt 2 3), (95, Sl a1 o_.Rows c1), (96, I i_102), (97, I (IntKind.i64.wrap (i_102 - 1))), (98, V (.pointer (some A111))), (99, V (.pointer (some A113))), (100, I ((gi o_.Rows (IntKind.i64.wrap (i_102 - 1))).State)), (101, Pt 6 0), (102, I ((gi o_.Rows i_102).State)), (103, B (decide (((gi o_.Rows (IntKind.i64.wrap (i_102 - 1))).State) > ((gi o_.Rows i_102).State)))), (104, B false), (105, Pt 2 3), (106, Sl a1 o_.Rows c1), (107, I i_102), (108, I (IntKind.i64.wrap (i_102 - 1))), (109, V (.pointer (some A116))), (110, V (.pointer (some A118))), (111, I ((gi o_.Rows (IntKind.i64.wrap (i_102 - 1))).State)), (112, Pt 6 0), (113, I ((gi o_.Rows i_102).State)), (114, B (((gi o_.Rows (IntKind.i64.wrap (i_102 - 1))).State) == ((gi o_.Rows i_102).State))), (115, B (((gi o_.Rows (IntKind.i64.wrap (i_102 - 1))).State) == ((gi o_.Rows i_102).State)))], [(2, (24, [I o_.States, I o_.Kinds, I o_.Init, Sl a1 o_.Rows c1])), (6, (67, [I ((gi o_.Rows i_102).State), I ((gi o_.Rows i_102).Kind), I ((gi o_.Rows i_102).Next), I ((gi o_.Rows i_102).Result)]))]⟩) (by as_aux_lemma => kernel_rfl) (by rfl) ?_
           intro a hS
           rcases Bool.eq_false_or_eq_true (((gi o_.Rows (IntKind.i64.wrap (i_102 - 1))).State) == ((gi o_.Rows i_102).State)) with hb | hb
           ·replace hS := hS.lit (t := 115) kr hb
            replace hm := hm.1 hb
            refine take T [25, 27, 32, 26, 28, 33] [2, 6] [1, 4, 93, 94, 95, 96, 97, 98, 99, 100, 101, 102, 103, 104, 105, 106, 107, 108, 109, 110, 111, 112, 113, 114, 115, 116, 117, 118, 119, 123, 124] hS kr kr kr hH (listed' := #[true, true, true, true, true, true, true, true, true, true, true, true, true, true, true, true, true, true, true, true, true, true, true, true, true, true, true, true, true, false, false, false, true, true, false, false, false, false]) (fuel := 7) (sy' := ⟨[(1, Pt 2 0), (4, I i_102), (93, B true), (94, Pt 2 3), (95, Sl a1 o_.Rows c1), (96, I i_102), (97, I (IntKind.i64.wrap (i_102 - 1))), (98, V (.pointer (some A111))), (99, V (.pointer (some A113))), (100, I ((gi o_.Rows (IntKind.i64.wrap (i_102 - 1))).State)), (101, Pt 6 0), (102, I ((gi o_.Rows i_102).State)), (103, B (decide (((gi o_.Rows (IntKind.i64.wrap (i_102 - 1))).State) > ((gi o_.Rows i_102).State)))), (104, B false), (105, Pt 2 3), (106, Sl a1 o_.Rows c1), (107, I i_102), (108, I (IntKind.i64.wrap (i_102 - 1))), (109, V (.pointer (some A116))), (110, V (.pointer (some A118))), (111, I ((gi o_.Rows (IntKind.i64.wrap (i_102 - 1))).State)), (112, Pt 6 0), (113, I ((gi o_.Rows i_102).State)), (114, B (((gi o_.Rows (IntKind.i64.wrap (i_102 - 1))).State) == ((gi o_.Rows i_102).State))), (115, B true), (116, Pt 2 3), (117, Sl a1 o_.Rows c1), (118, I i_102), (119, I (IntKind.i64.wrap (i_102 - 1))), (123, Pt 6 1), (124, I ((gi o_.Rows i_102).Kind))], [(2, (24, [I o_.States, I o_.Kinds, I o_.Init, Sl a1 o_.Rows c1])), (6, (67, [I ((gi o_.Rows i_102).State), I ((gi o_.Rows i_102).Kind), I ((gi o_.Rows i_102).Next), I ((gi o_.Rows i_102).Result)]))]⟩) (by as_aux_lemma => kernel_rfl) (by rfl) ?_
            intro a hS
            obtain ⟨hq, hm⟩ := hm
            refine dindex (e := 67) (k := .i64) T 29 hS kr kr kr (by rfl) kr hH kr kr h103 kr kr hq.1 hq.2 ?_
            intro A121 a h122 hS
            clear hq
            have h122b := h122.here
            refine dfieldA (off := 1) (fsz := 1) (ft := 3) (TF := tI) (y := (gi o_.Rows (IntKind.i64.wrap (i_102 - 1))).Kind) 30 T hS kr kr kr (by rfl) kr hH kr h122 kr kr kr (fun cs h => Api_Row_f1 h) ?_
            intro A123 a h124 hbl hS
            have h124b := h122b
            rw [← hbl] at h124b
            clear hbl
            refine dload1 T 31 hS kr kr kr (by rfl) kr hH kr h124 h124b rfl kr ?_
            intro v125 a hv hS
            cases hv
            refine take T [34, 35, 36, 37] [2, 6] [1, 4, 94, 95, 96, 97, 98, 99, 100, 101, 102, 103, 104, 105, 106, 107, 108, 109, 110, 111, 112, 113, 114, 115, 116, 117, 118, 119, 120, 121, 122, 123, 124, 125, 126, 127, 128] hS kr kr kr hH (listed' := #[true, true, true, true, true, true, true, true, true, true, true, true, true, true, true, true, true, true, true, true, true, true, true, true, true, true, true, true, true, true, true, true, true, true, true, true, true, true]) (fuel := 0) (sy' := ⟨[(1, Pt 2 0), (4, I i_102), (94, Pt 2 3), (95, Sl a1 o_.Rows c1), (96, I i_102), (97, I (IntKind.i64.wrap (i_102 - 1))), (98, V (.pointer (some A111))), (99, V (.pointer (some A113))), (100, I ((gi o_.Rows (IntKind.i64.wrap (i_102 - 1))).State)), (101, Pt 6 0), (102, I ((gi o_.Rows i_102).State)), (103, B (decide (((gi o_.Rows (IntKind.i64.wrap (i_102 - 1))).State) > ((gi o_.Rows i_102).State)))), (104, B false), (105, Pt 2 3), (106, Sl a1 o_.Rows c1), (107, I i_102), (108, I (IntKind.i64.wrap (i_102 - 1))), (109, V (.pointer (some A116))), (110, V (.pointer (some A118))), (111, I ((gi o_.Rows (IntKind.i64.wrap (i_102 - 1))).State)), (112, Pt 6 0), (113, I ((gi o_.Rows i_102).State)), (114, B (((gi o_.Rows (IntKind.i64.wrap (i_102 - 1))).State) == ((gi o_.Rows i_102).State))), (115, B true), (116, Pt 2 3), (117, Sl a1 o_.Rows c1), (118, I i_102), (119, I (IntKind.i64.wrap (i_102 - 1))), (120, V (.pointer (some A121))), (121, V (.pointer (some A123))), (122, I ((gi o_.Rows (IntKind.i64.wrap (i_102 - 1))).Kind)), (123, Pt 6 1), (124, I ((gi o_.Rows i_102).Kind)), (125, B (decide (((gi o_.Rows (IntKind.i64.wrap (i_102 - 1))).Kind) ≥ ((gi o_.Rows i_102).Kind)))), (126, B (decide (((gi o_.Rows (IntKind.i64.wrap (i_102 - 1))).Kind) ≥ ((gi o_.Rows i_102).Kind)))), (127, B (decide (((gi o_.Rows (IntKind.i64.wrap (i_102 - 1))).Kind) ≥ ((gi o_.Rows i_102).Kind)))), (128, B (decide (((gi o_.Rows (IntKind.i64.wrap (i_102 - 1))).Kind) ≥ ((gi o_.Rows i_102).Kind))))], [(2, (24, [I o_.States, I o_.Kinds, I o_.Init, Sl a1 o_.Rows c1])), (6, (67, [I ((gi o_.Rows i_102).State), I ((gi o_.Rows i_102).Kind), I ((gi o_.Rows i_102).Next), I ((gi o_.Rows i_102).Result)]))]⟩) (by as_aux_lemma => kernel_rfl) (by rfl) ?_
            intro a hS
            refine drawnDone kr ?_
            clear hD hH
            replace hS := hS.sl ⟨[(1, Pt 2 0), (4, I i_102), (94, Pt 2 3), (95, Sl a1 o_.Rows c1), (96, I i_102), (97, I (IntKind.i64.wrap (i_102 - 1))), (98, V (.pointer (some A111))), (99, V (.pointer (some A113))), (100, I ((gi o_.Rows (IntKind.i64.wrap (i_102 - 1))).State)), (101, Pt 6 0), (102, I ((gi o_.Rows i_102).State)), (103, B (decide (((gi o_.Rows (IntKind.i64.wrap (i_102 - 1))).State) > ((gi o_.Rows i_102).State)))), (104, B false), (105, Pt 2 3), (106, Sl a1 o_.Rows c1), (107, I i_102), (108, I (IntKind.i64.wrap (i_102 - 1))), (109, V (.pointer (some A116))), (110, V (.pointer (some A118))), (111, I ((gi o_.Rows (IntKind.i64.wrap (i_102 - 1))).State)), (112, Pt 6 0), (113, I ((gi o_.Rows i_102).State)), (114, B (((gi o_.Rows (IntKind.i64.wrap (i_102 - 1))).State) == ((gi o_.Rows i_102).State))), (115, B true), (116, Pt 2 3), (117, Sl a1 o_.Rows c1), (118, I i_102), (119, I (IntKind.i64.wrap (i_102 - 1))), (120, V (.pointer (some A121))), (121, V (.pointer (some A123))), (122, I ((gi o_.Rows (IntKind.i64.wrap (i_102 - 1))).Kind)), (123, Pt 6 1), (124, I ((gi o_.Rows i_102).Kind)), (125, B (decide (((gi o_.Rows (IntKind.i64.wrap (i_102 - 1))).Kind) ≥ ((gi o_.Rows i_102).Kind)))), (126, B (decide (((gi o_.Rows (IntKind.i64.wrap (i_102 - 1))).Kind) ≥ ((gi o_.Rows i_102).Kind)))), (127, B (decide (((gi o_.Rows (IntKind.i64.wrap (i_102 - 1))).Kind) ≥ ((gi o_.Rows i_102).Kind)))), (128, B (decide (((gi o_.Rows (IntKind.i64.wrap (i_102 - 1))).Kind) ≥ ((gi o_.Rows i_102).Kind))))], [(2, (24, [I o_.States, I o_.Kinds, I o_.Init, Sl a1 o_.Rows c1])), (6, (67, [I ((gi o_.Rows i_102).State), I ((gi o_.Rows i_102).Kind), I ((gi o_.Rows i_102).Next), I ((gi o_.Rows i_102).Result)]))]⟩
            exact ⟨ρ, _, decide (((gi o_.Rows (IntKind.i64.wrap (i_102 - 1))).Kind) ≥ ((gi o_.Rows i_102).Kind)), hm, hS.sl _, hO, h103⟩
           ·replace hS := hS.lit (t := 115) kr hb
            replace hm := hm.2 hb
            refine take T [25, 27, 32, 26, 28, 33, 29, 30, 31, 34, 35, 36, 37] [2, 6] [1, 4, 94, 95, 96, 97, 98, 99, 100, 101, 102, 103, 104, 105, 106, 107, 108, 109, 110, 111, 112, 113, 114, 115, 116, 117, 118, 119, 120, 121, 122, 123, 124, 125, 126, 127, 128] hS kr kr kr hH (listed' := #[true, true, true, true, true, true, true, true, true, true, true, true, true, true, true, true, true, true, true, true, true, true, true, true, true, true, true, true, true, true, true, true, true, true, true, true, true, true]) (fuel := 0) (sy' := ⟨[(1, Pt 2 0), (4, I i_102), (94, Pt 2 3), (95, Sl a1 o_.Rows c1), (96, I i_102), (97, I (IntKind.i64.wrap (i_102 - 1))), (98, V (.pointer (some A111))), (99, V (.pointer (some A113))), (100, I ((gi o_.Rows (IntKind.i64.wrap (i_102 - 1))).State)), (101, Pt 6 0), (102, I ((gi o_.Rows i_102).State)), (103, B (decide (((gi o_.Rows (IntKind.i64.wrap (i_102 - 1))).State) > ((gi o_.Rows i_102).State)))), (104, B false), (105, Pt 2 3), (106, Sl a1 o_.Rows c1), (107, I i_102), (108, I (IntKind.i64.wrap (i_102 - 1))), (109, V (.pointer (some A116))), (110, V (.pointer (some A118))), (111, I ((gi o_.Rows (IntKind.i64.wrap (i_102 - 1))).State)), (112, Pt 6 0), (113, I ((gi o_.Rows i_102).State)), (114, B (((gi o_.Rows (IntKind.i64.wrap (i_102 - 1))).State) == ((gi o_.Rows i_102).State))), (115, B false), (116, V undef), (117, V undef), (118, V undef), (119, V undef), (120, V undef), (121, V undef), (122, V undef), (123, V undef), (124, V undef), (125, V undef), (126, B false), (127, B false), (128, B false)], [(2, (24, [I o_.States, I o_.Kinds, I o_.Init, Sl a1 o_.Rows c1])), (6, (67, [I ((gi o_.Rows i_102).State), I ((gi o_.Rows i_102).Kind), I ((gi o_.Rows i_102).Next), I ((gi o_.Rows i_102).Result)]))]⟩) (by as_aux_lemma => kernel_rfl) (by rfl) ?_
            intro a hS
            refine drawnDone kr ?_
            clear hD hH
            replace hS := hS.sl ⟨[(1, Pt 2 0), (4, I i_102), (94, Pt 2 3), (95, Sl a1 o_.Rows c1), (96, I i_102), (97, I (IntKind.i64.wrap (i_102 - 1))), (98, V (.pointer (some A111))), (99, V (.pointer (some A113))), (100, I ((gi o_.Rows (IntKind.i64.wrap (i_102 - 1))).State)), (101, Pt 6 0), (102, I ((gi o_.Rows i_102).State)), (103, B (decide (((gi o_.Rows (IntKind.i64.wrap (i_102 - 1))).State) > ((gi o_.Rows i_102).State)))), (104, B false), (105, Pt 2 3), (106, Sl a1 o_.Rows c1), (107, I i_102), (108, I (IntKind.i64.wrap (i_102 - 1))), (109, V (.pointer (some A116))), (110, V (.pointer (some A118))), (111, I ((gi o_.Rows (IntKind.i64.wrap (i_102 - 1))).State)), (112, Pt 6 0), (113, I ((gi o_.Rows i_102).State)), (114, B (((gi o_.Rows (IntKind.i64.wrap (i_102 - 1))).State) == ((gi o_.Rows i_102).State))), (115, B false), (126, B false), (127, B false), (128, B false)], [(2, (24, [I o_.States, I o_.Kinds, I o_.Init, Sl a1 o_.Rows c1])), (6, (67, [I ((gi o_.Rows i_102).State), I ((gi o_.Rows i_102).Kind), I ((gi o_.Rows i_102).Next), I ((gi o_.Rows i_102).Result)]))]⟩
            exact ⟨ρ, _, false, hm, hS.sl _, hO, h103⟩
         ·replace hS := hS.lit (t := 93) kr hb
          replace hm := hm.2 hb
          refine take T [3, 5, 10, 4, 6, 11, 7, 8, 9, 12, 13, 14, 16, 21, 15, 17, 22, 18, 19, 20, 23, 24, 25, 27, 32, 26, 28, 33, 29, 30, 31, 34, 35, 36, 37] [2, 6] [1, 4, 94, 95, 96, 97, 98, 99, 100, 101, 102, 103, 104, 105, 106, 107, 108, 109, 110, 111, 112, 113, 114, 115, 116, 117, 118, 119, 120, 121, 122, 123, 124, 125, 126, 127, 128] hS kr kr kr hH (listed' := #[true, true, true, true, true, true, true, true, true, true, true, true, true, true, true, true, true, true, true, true, true, true, true, true, true, true, true, true, true, true, true, true, true, true, true, true, true, true]) (fuel := 0) (sy' := ⟨[(1, Pt 2 0), (4, I i_102), (94, V undef), (95, V undef), (96, V undef), (97, V undef), (98, V undef), (99, V undef), (100, V undef), (101, V undef), (102, V undef), (103, V undef), (104, V undef), (105, V undef), (106, V undef), (107, V undef), (108, V undef), (109, V undef), (110, V undef), (111, V undef), (112, V undef), (113, V undef), (114, V undef), (115, V undef), (116, V undef), (117, V undef), (118, V undef), (119, V undef), (120, V undef), (121, V undef), (122, V undef), (123, V undef), (124, V undef), (125, V undef), (126, V undef), (127, V undef), (128, B false)], [(2, (24, [I o_.States, I o_.Kinds, I o_.Init, Sl a1 o_.Rows c1])), (6, (67, [I ((gi o_.Rows i_102).State), I ((gi o_.Rows i_102).Kind), I ((gi o_.Rows i_102).Next), I ((gi o_.Rows i_102).Result)]))]⟩) (by as_aux_lemma => kernel_rfl) (by rfl) ?_
          intro a hS
          refine drawnDone kr ?_
          clear hD hH
          replace hS := hS.sl ⟨[(1, Pt 2 0), (4, I i_102), (128, B false)], [(2, (24, [I o_.States, I o_.Kinds, I o_.Init, Sl a1 o_.Rows c1]))]⟩
          exact ⟨ρ, _, false, hm, hS.sl _, hO, h103⟩
        ·rintro a w127 ⟨ρ, χ126, x_107, hm, hS, hO, h108⟩
         unfold VC23_J2 at hm
         refine wcond hS (b := x_107) kr (fun hb => ?_) (fun hb => ?_)
         ·replace hm := hm.1 hb
          refine rP T hS ⟨[(2, I i_102), (3, I 32)], []⟩ fun a hS => ?_
          refine wret ?_
          exact fin T hS hO (fun c => c) rfl (r := [.int .i64 i_102, .int .i64 32]) kr (fun χ' hM hC => ⟨(i_102, 32), hm, rfl⟩)
         ·replace hm := hm.2 hb
          refine wskip ?_
          refine region (eP T hS ⟨[(1, Pt 2 0), (4, I (IntKind.i64.wrap (i_102 + 1)))], [(2, (24, [I o_.States, I o_.Kinds, I o_.Init, Sl a1 o_.Rows c1]))]⟩ fun a hS => ?_)
          exact ⟨IntKind.i64.wrap (i_102 + 1), ⟨ρ, _, hm.1, hS.sl _, hO, h108⟩, hm.2⟩
    ·replace hm := hm.2 hb
     refine wexit (by rfl) ?_
     exact ⟨ρ, _, hm, hS.sl _, hO, h103⟩
  ·rintro a w133 ⟨ρ, χ132, hm, hS, hO, h101⟩
   unfold VC23_J1 at hm
   refine rP T hS ⟨[(2, I ((o_.Rows.length : Nat) : Int)), (3, I 0)], []⟩ fun a hS => ?_
   refine wret ?_
   exact fin T hS hO (fun c => c) rfl (r := [.int .i64 ((o_.Rows.length : Nat) : Int), .int .i64 0]) kr (fun χ' hM hC => ⟨(((o_.Rows.length : Nat) : Int), 0), hm, rfl⟩)
theorem C23 (v : ∀ (o_ : Api_Object), VC23 o_ (fun r => r = ref23_Check o_)) : S23 := by
 intro w χ o_ a1 c1   h1
 refine (W23 w χ o_ a1 c1   _ (v o_) h1).mono ?_
 rintro _ _ _ _ ⟨r, rfl, h⟩
 exact h
/-- replevin/replevinref28.From -/
theorem W40 (k23 : S23) (k53 : S53) (w0 : World) (χ0 : Nat → Nat) (o_ : Api_Object) (l_ : List Api_Oper) (state : Int) (picks : List Api_Pick) (a1 : Option Addr) (c1 : Nat) (a2 : Option Addr) (c2 : Nat) (a3 : Option Addr) (c3 : Nat) (Q : Int × Int × Int → Prop) (hm : VC40 o_ l_ state picks Q) (h1 : RS tApi_Row w0 χ0 a1 o_.Rows c1) (h2 : RS tApi_Oper w0 χ0 a2 l_ c2) (h3 : RS tApi_Pick w0 χ0 a3 picks c3) :
  Ret Try.prog 40 #[.agg #[.int .i64 o_.States, .int .i64 o_.Kinds, .int .i64 o_.Init, .slice a1 o_.Rows.length c1], .slice a2 l_.length c2, .int .i64 state, .slice a3 picks.length c3] xnone w0 χ0 (fun w χ' v => ∃ r, Q r ∧ v = .tuple #[.int .i64 r.1, .int .i64 r.2.1, .int .i64 r.2.2]) := by
 unfold VC40 at hm
 replace hm := hm (h1.sm kr)
 replace hm := hm (h2.sm kr)
 replace hm := hm (h3.sm kr)
 refine enter Try.func40 rfl (vals := [.agg #[.int .i64 o_.States, .int .i64 o_.Kinds, .int .i64 o_.Init, .slice a1 o_.Rows.length c1], .slice a2 l_.length c2, .int .i64 state, .slice a3 picks.length c3]) kr ?_
 intro ρ a hS hO hM
 replace h1 := h1.m0 hM
 replace h2 := h2.m0 hM
 replace h3 := h3.m0 hM
 clear hM
 refine rM T hS ⟨[(1, Sl a2 l_ c2), (2, I state), (3, Sl a3 picks c3), (4, Pt 5 0)], [(5, (24, [I o_.States, I o_.Kinds, I o_.Init, Sl a1 o_.Rows c1]))]⟩ fun ρ a w168 χ169 hS hE hr => ?_
 replace hO := hO.mv hE rfl rfl
 replace h1 := h1.mv hE rfl
 replace h2 := h2.mv hE rfl
 replace h3 := h3.mv hE rfl
 clear hE hr
 refine regO ?_
 refine oP T hS 1 ⟨[(1, Sl a2 l_ c2), (2, I state), (3, Sl a3 picks c3), (4, Pt 5 0), (19, V (.agg #[.int .i64 o_.States, .int .i64 o_.Kinds, .int .i64 o_.Init, .slice a1 o_.Rows.length c1]))], [(5, (24, [I o_.States, I o_.Kinds, I o_.Init, Sl a1 o_.Rows c1]))]⟩ fun a hS => ?_
 refine op1 (call hS kr kr hb23 kr (fun _ _ => rfl) (k23 _ _ o_ a1 c1 h1) ?_)
 intro v101 a w102 χ103 hE hp hS
 replace hO := hO.mv hE rfl rfl
 replace h1 := h1.mv hE rfl
 replace h2 := h2.mv hE rfl
 replace h3 := h3.mv hE rfl
 clear hE
 obtain ⟨r104, hr⟩ : ∃ r, ref23_Check o_ = r := ⟨_, rfl⟩
 replace hm := hm r104 hr
 rw [hr] at hp
 clear hr
 subst hp
 refine eP T hS ⟨[(1, Sl a2 l_ c2), (2, I state), (3, Sl a3 picks c3), (4, Pt 5 0), (12, I r104.2)], [(5, (24, [I o_.States, I o_.Kinds, I o_.Init, Sl a1 o_.Rows c1]))]⟩ fun a hS => ?_
 refine wseq ?_
 refine rP T hS ⟨[(1, Sl a2 l_ c2), (2, I state), (3, Sl a3 picks c3), (4, Pt 5 0), (24, B (r104.2 != 0))], [(5, (24, [I o_.States, I o_.Kinds, I o_.Init, Sl a1 o_.Rows c1]))]⟩ fun a hS => ?_
 refine wcond hS (b := (r104.2 != 0)) kr (fun hb => ?_) (fun hb => ?_)
 ·replace hm := hm.1 hb
  refine rP T hS ⟨[(8, I 0), (9, I (-1)), (10, I 2)], []⟩ fun a hS => ?_
  refine wret ?_
  exact fin T hS hO (fun c => c) rfl (r := [.int .i64 0, .int .i64 (-1), .int .i64 2]) kr (fun χ' hM hC => ⟨(0, (-1), 2), hm, rfl⟩)
 ·replace hm := hm.2 hb
  refine wskip ?_
  refine wseq ?_
  refine rP T hS ⟨[(1, Sl a2 l_ c2), (2, I state), (3, Sl a3 picks c3), (4, Pt 5 0), (32, B ((decide (state < 0)) || (decide (state ≥ o_.States))))], [(5, (24, [I o_.States, I o_.Kinds, I o_.Init, Sl a1 o_.Rows c1]))]⟩ (sp := [27]) fun a hS => ?_
  refine wcond hS (b := ((decide (state < 0)) || (decide (state ≥ o_.States)))) kr (fun hb => ?_) (fun hb => ?_)
  ·replace hm := hm.1 hb
   refine rP T hS ⟨[(8, I 0), (9, I (-1)), (10, I 30)], []⟩ fun a hS => ?_
   refine wret ?_
   exact fin T hS hO (fun c => c) rfl (r := [.int .i64 0, .int .i64 (-1), .int .i64 30]) kr (fun χ' hM hC => ⟨(0, (-1), 30), hm, rfl⟩)
  ·replace hm := hm.2 hb
   refine wskip ?_
   refine wcut (fun a w => ∃ (ρ : Nat → Nat) (χ : Nat → Nat) (state_105 : Int), VC40_J1 picks Q state_105 ∧ St Try.f40.ntmps ⟨[(2, I state_105), (3, Sl a3 picks c3)], []⟩ ρ a w χ ∧ Old w0 χ0 w χ ∧ RS tApi_Pick w χ a3 picks c3) ?_ ?_
   ·refine rP T hS ⟨[(1, Sl a2 l_ c2), (2, I state), (3, Sl a3 picks c3), (4, Pt 5 0), (13, I 0)], [(5, (24, [I o_.States, I o_.Kinds, I o_.Init, Sl a1 o_.Rows c1]))]⟩ fun a hS => ?_
    refine wblock ?_
    obtain ⟨I1, μ1, hm0, hm⟩ := hm
    refine wloop (σ := Int × Int) (fun s a w => ∃ (ρ : Nat → Nat) (χ : Nat → Nat), I1 s.1 s.2 ∧ St Try.f40.ntmps ⟨[(1, Sl a2 l_ c2), (2, I s.1), (3, Sl a3 picks c3), (4, Pt 5 0), (13, I s.2)], [(5, (24, [I o_.States, I o_.Kinds, I o_.Init, Sl a1 o_.Rows c1]))]⟩ ρ a w χ ∧ Old w0 χ0 w χ ∧ RS tApi_Oper w χ a2 l_ c2 ∧ RS tApi_Pick w χ a3 picks c3 ∧ RS tApi_Row w χ a1 o_.Rows c1) (fun s => μ1 s.1 s.2) (⟨state, 0⟩) ?_ ?_
    ·exact ⟨ρ, _, hm0, hS.sl _, hO, h2, h3, h1⟩
    ·rintro ⟨state_108, i_110⟩ a w165 ⟨ρ, χ164, hI, hS, hO, h107, h109, h111⟩
     replace hm := hm state_108 i_110 hI
     clear hI hm0
     refine wseq ?_
     refine rP T hS ⟨[(1, Sl a2 l_ c2), (2, I state_108), (3, Sl a3 picks c3), (4, Pt 5 0), (13, I i_110), (36, B (decide (i_110 < ((picks.length : Nat) : Int))))], [(5, (24, [I o_.States, I o_.Kinds, I o_.Init, Sl a1 o_.Rows c1]))]⟩ fun a hS => ?_
     refine wcond hS (b := decide (i_110 < ((picks.length : Nat) : Int))) kr (fun hb => ?_) (fun hb => ?_)
     ·replace hm := hm.1 hb
      refine wskip ?_
      refine wseq ?_
      refine wblock ?_
      refine regO ?_
      refine oP T hS 2 ⟨[(1, Sl a2 l_ c2), (2, I state_108), (3, Sl a3 picks c3), (4, Pt 5 0), (13, I i_110), (39, Sl a3 picks c3), (40, I i_110)], [(5, (24, [I o_.States, I o_.Kinds, I o_.Init, Sl a1 o_.Rows c1]))]⟩ fun a hS => ?_
      obtain ⟨hq, hm⟩ := hm
      refine op1 (index (e := 51) (k := .i64) T hS kr kr kr kr h109 kr kr hq.1 hq.2 ?_)
      intro A112 a h113 hS
      clear hq
      refine op1 (loadA T hS kr kr kr h113 kr kr ?_)
      intro v114 a hv hS
      subst hv
      refine eM T hS ⟨[(1, Sl a2 l_ c2), (2, I state_108), (3, Sl a3 picks c3), (4, Pt 5 0), (13, I i_110), (14, Pt 15 0)], [(5, (24, [I o_.States, I o_.Kinds, I o_.Init, Sl a1 o_.Rows c1])), (15, (51, [I ((gi picks i_110).Oper), I ((gi picks i_110).Result)]))]⟩ fun ρ a w162 χ163 hS hE hr => ?_
      replace hO := hO.mv hE rfl rfl
      replace h107 := h107.mv hE rfl
      replace h109 := h109.mv hE rfl
      replace h111 := h111.mv hE rfl
      clear hE hr
      refine wseq ?_
      refine rP T hS ⟨[(1, Sl a2 l_ c2), (2, I state_108), (3, Sl a3 picks c3), (4, Pt 5 0), (13, I i_110), (14, Pt 15 0), (52, B ((decide (((gi picks i_110).Oper) < 0)) || (decide (((gi picks i_110).Oper) ≥ ((l_.length : Nat) : Int)))))], [(5, (24, [I o_.States, I o_.Kinds, I o_.Init, Sl a1 o_.Rows c1])), (15, (51, [I ((gi picks i_110).Oper), I ((gi picks i_110).Result)]))]⟩ (sp := [46]) fun a hS => ?_
      refine wcond hS (b := ((decide (((gi picks i_110).Oper) < 0)) || (decide (((gi picks i_110).Oper) ≥ ((l_.length : Nat) : Int))))) kr (fun hb => ?_) (fun hb => ?_)
      ·replace hm := hm.1 hb
       refine rP T hS ⟨[(8, I 0), (9, I i_110), (10, I 2)], []⟩ fun a hS => ?_
       refine wret ?_
       exact fin T hS hO (fun c => c) rfl (r := [.int .i64 0, .int .i64 i_110, .int .i64 2]) kr (fun χ' hM hC => ⟨(0, i_110, 2), hm, rfl⟩)
      ·replace hm := hm.2 hb
       refine wskip ?_
       refine wcut (fun a w => ∃ (ρ : Nat → Nat) (χ : Nat → Nat), VC40_J2 o_ l_ picks Q I1 μ1 state_108 i_110 ∧ St Try.f40.ntmps ⟨[(1, Sl a2 l_ c2), (2, I state_108), (3, Sl a3 picks c3), (4, Pt 5 0), (13, I i_110), (14, Pt 15 0)], [(5, (24, [I o_.States, I o_.Kinds, I o_.Init, Sl a1 o_.Rows c1])), (15, (51, [I ((gi picks i_110).Oper), I ((gi picks i_110).Result)]))]⟩ ρ a w χ ∧ Old w0 χ0 w χ ∧ RS tApi_Oper w χ a2 l_ c2 ∧ RS tApi_Pick w χ a3 picks c3 ∧ RS tApi_Row w χ a1 o_.Rows c1) ?_ ?_
       ·refine rP T hS ⟨[(1, Sl a2 l_ c2), (2, I state_108), (3, Sl a3 picks c3), (4, Pt 5 0), (13, I i_110), (14, Pt 15 0), (15, I 0)], [(5, (24, [I o_.States, I o_.Kinds, I o_.Init, Sl a1 o_.Rows c1])), (15, (51, [I ((gi picks i_110).Oper), I ((gi picks i_110).Result)]))]⟩ fun a hS => ?_
        refine wblock ?_
        obtain ⟨I2, μ2, hm0, hm⟩ := hm
        refine wloop (σ := Int) (fun s a w => ∃ (ρ : Nat → Nat) (χ : Nat → Nat), I2 s ∧ St Try.f40.ntmps ⟨[(1, Sl a2 l_ c2), (2, I state_108), (3, Sl a3 picks c3), (4, Pt 5 0), (13, I i_110), (14, Pt 15 0), (15, I s)], [(5, (24, [I o_.States, I o_.Kinds, I o_.Init, Sl a1 o_.Rows c1])), (15, (51, [I ((gi picks i_110).Oper), I ((gi picks i_110).Result)]))]⟩ ρ a w χ ∧ Old w0 χ0 w χ ∧ RS tApi_Oper w χ a2 l_ c2 ∧ RS tApi_Pick w χ a3 picks c3 ∧ RS tApi_Row w χ a1 o_.Rows c1) (fun s => μ2 s) (0) ?_ ?_
        ·exact ⟨ρ, _, hm0, hS.sl _, hO, h107, h109, h111⟩
        ·rintro k_149 a w159 ⟨ρ, χ158, hI, hS, hO, h147, h148, h150⟩
         replace hm := hm k_149 hI
         clear hI hm0
         refine wseq ?_
         refine rP T hS ⟨[(1, Sl a2 l_ c2), (2, I state_108), (3, Sl a3 picks c3), (4, Pt 5 0), (13, I i_110), (14, Pt 15 0), (15, I k_149), (56, B (decide (k_149 < i_110)))], [(5, (24, [I o_.States, I o_.Kinds, I o_.Init, Sl a1 o_.Rows c1])), (15, (51, [I ((gi picks i_110).Oper), I ((gi picks i_110).Result)]))]⟩ fun a hS => ?_
         refine wcond hS (b := decide (k_149 < i_110)) kr (fun hb => ?_) (fun hb => ?_)
         ·replace hm := hm.1 hb
          refine wskip ?_
          refine wseq ?_
          refine wblock ?_
          refine drawnSX [5, 15] mixed hS ?_
          intro w151 χ152 hS hE hD hH
          replace hO := hO.mv hE rfl rfl
          replace h147 := h147.mv hE rfl
          replace h148 := h148.mv hE rfl
          replace h150 := h150.mv hE rfl
          clear hE
          refine tk T [0, 1, 5, 6] [5, 15] hS hH #[true, true, false, false, false, true, true, false] 4 ⟨[(1, Sl a2 l_ c2), (2, I state_108), (3, Sl a3 picks c3), (4, Pt 5 0), (13, I i_110), (14, Pt 15 0), (15, I k_149), (59, Sl a3 picks c3), (60, I k_149), (65, I ((gi picks i_110).Oper))], [(5, (24, [I o_.States, I o_.Kinds, I o_.Init, Sl a1 o_.Rows c1])), (15, (51, [I ((gi picks i_110).Oper), I ((gi picks i_110).Result)]))]⟩ fun a hS => ?_
          obtain ⟨hq, hm⟩ := hm
          refine dindex (e := 51) (k := .i64) T 2 hS kr kr kr (by rfl) kr hH kr kr h148 kr kr hq.1 hq.2 ?_
          intro A153 a h154 hS
          clear hq
          have h154b := h154.here
          refine dfieldA (off := 0) (fsz := 1) (ft := 3) (TF := tI) (y := (gi picks k_149).Oper) 3 T hS kr kr kr (by rfl) kr hH kr h154 kr kr kr (fun cs h => Api_Pick_f0 h) ?_
          intro A155 a h156 hbl hS
          have h156b := h154b
          rw [← hbl] at h156b
          clear hbl
          refine dload1 T 4 hS kr kr kr (by rfl) kr hH kr h156 h156b rfl kr ?_
          intro v157 a hv hS
          cases hv
          refine tk T [7] [5, 15] hS hH #[true, true, true, true, true, true, true, true] 0 ⟨[(1, Sl a2 l_ c2), (2, I state_108), (3, Sl a3 picks c3), (4, Pt 5 0), (13, I i_110), (14, Pt 15 0), (15, I k_149), (66, B (((gi picks k_149).Oper) == ((gi picks i_110).Oper)))], [(5, (24, [I o_.States, I o_.Kinds, I o_.Init, Sl a1 o_.Rows c1])), (15, (51, [I ((gi picks i_110).Oper), I ((gi picks i_110).Result)]))]⟩ fun a hS => ?_
          refine drawnDone kr ?_
          clear hD hH
          replace hS := hS.sl ⟨[(1, Sl a2 l_ c2), (2, I state_108), (3, Sl a3 picks c3), (4, Pt 5 0), (13, I i_110), (14, Pt 15 0), (15, I k_149), (66, B (((gi picks k_149).Oper) == ((gi picks i_110).Oper)))], [(5, (24, [I o_.States, I o_.Kinds, I o_.Init, Sl a1 o_.Rows c1])), (15, (51, [I ((gi picks i_110).Oper), I ((gi picks i_110).Result)]))]⟩
          refine wcond hS (b := (((gi picks k_149).Oper) == ((gi picks i_110).Oper))) kr (fun hb => ?_) (fun hb => ?_)
          ·replace hm := hm.1 hb
           refine rP T hS ⟨[(8, I 0), (9, I i_110), (10, I 21)], []⟩ fun a hS => ?_
           refine wret ?_
           exact fin T hS hO (fun c => c) rfl (r := [.int .i64 0, .int .i64 i_110, .int .i64 21]) kr (fun χ' hM hC => ⟨(0, i_110, 21), hm, rfl⟩)
          ·replace hm := hm.2 hb
           refine wskip ?_
           refine region (eP T hS ⟨[(1, Sl a2 l_ c2), (2, I state_108), (3, Sl a3 picks c3), (4, Pt 5 0), (13, I i_110), (14, Pt 15 0), (15, I (IntKind.i64.wrap (k_149 + 1)))], [(5, (24, [I o_.States, I o_.Kinds, I o_.Init, Sl a1 o_.Rows c1])), (15, (51, [I ((gi picks i_110).Oper), I ((gi picks i_110).Result)]))]⟩ fun a hS => ?_)
           exact ⟨IntKind.i64.wrap (k_149 + 1), ⟨ρ, _, hm.1, hS.sl _, hO, h147, h148, h150⟩, hm.2⟩
         ·replace hm := hm.2 hb
          refine wexit (by rfl) ?_
          exact ⟨ρ, _, hm, hS.sl _, hO, h147, h148, h150⟩
       ·rintro a w161 ⟨ρ, χ160, hm, hS, hO, h115, h116, h117⟩
        unfold VC40_J2 at hm
        refine drawnSX [5, 15] mixed hS ?_
        intro w118 χ119 hS hE hD hH
        replace hO := hO.mv hE rfl rfl
        replace h115 := h115.mv hE rfl
        replace h116 := h116.mv hE rfl
        replace h117 := h117.mv hE rfl
        clear hE
        refine tk T [0, 1, 2, 3, 8, 4, 9] [5, 15] hS hH #[true, true, true, true, true, false, false, false, true, true, false, false, false, false, false, false] 9 ⟨[(1, Sl a2 l_ c2), (3, Sl a3 picks c3), (4, Pt 5 0), (13, I i_110), (14, Pt 15 0), (69, V (.agg #[.int .i64 o_.States, .int .i64 o_.Kinds, .int .i64 o_.Init, .slice a1 o_.Rows.length c1])), (70, I state_108), (71, Sl a2 l_ c2), (73, I ((gi picks i_110).Oper)), (78, I ((gi picks i_110).Result))], [(5, (24, [I o_.States, I o_.Kinds, I o_.Init, Sl a1 o_.Rows c1])), (15, (51, [I ((gi picks i_110).Oper), I ((gi picks i_110).Result)]))]⟩ fun a hS => ?_
        obtain ⟨hq, hm⟩ := hm
        refine dindex (e := 45) (k := .i64) T 5 hS kr kr kr (by rfl) kr hH kr kr h115 kr kr hq.1 hq.2 ?_
        intro A120 a h121 hS
        clear hq
        have h121b := h121.here
        refine dfieldA (off := 1) (fsz := 1) (ft := 3) (TF := tI) (y := (gi l_ ((gi picks i_110).Oper)).Kind) 6 T hS kr kr kr (by rfl) kr hH kr h121 kr kr kr (fun cs h => Api_Oper_f1 h) ?_
        intro A122 a h123 hbl hS
        have h123b := h121b
        rw [← hbl] at h123b
        clear hbl
        refine dload1 T 7 hS kr kr kr (by rfl) kr hH kr h123 h123b rfl kr ?_
        intro v124 a hv hS
        cases hv
        refine only 10 kr (by rfl) (call hS kr kr hb53 kr (fun _ _ => rfl) (k53 _ _ o_ state_108 ((gi l_ ((gi picks i_110).Oper)).Kind) ((gi picks i_110).Result) a1 c1 h117) ?_)
        intro v125 a w126 χ127 hE hp hS
        replace hO := hO.mv hE rfl rfl
        replace hD := hD.ev hE rfl
        replace h115 := h115.mv hE rfl
        replace h116 := h116.mv hE rfl
        replace h117 := h117.mv hE rfl
        replace h121 := h121.mv hE rfl
        replace h123 := h123.mv hE rfl
        clear hE
        obtain ⟨r128, hr⟩ : ∃ r, ref28_Step o_ state_108 ((gi l_ ((gi picks i_110).Oper)).Kind) ((gi picks i_110).Result) = r := ⟨_, rfl⟩
        replace hm := hm r128 hr
        rw [hr] at hp
        clear hr
        subst hp
        replace hS := hS.sl ⟨[(1, Sl a2 l_ c2), (3, Sl a3 picks c3), (4, Pt 5 0), (13, I i_110), (14, Pt 15 0), (69, V (.agg #[.int .i64 o_.States, .int .i64 o_.Kinds, .int .i64 o_.Init, .slice a1 o_.Rows.length c1])), (70, I state_108), (71, Sl a2 l_ c2), (73, I ((gi picks i_110).Oper)), (78, I ((gi picks i_110).Result)), (74, V (.pointer (some A120))), (75, V (.pointer (some A122))), (76, I ((gi l_ ((gi picks i_110).Oper)).Kind)), (79, V (.tuple #[.int .i64 r128.1, .int .i64 r128.2]))], [(5, (24, [I o_.States, I o_.Kinds, I o_.Init, Sl a1 o_.Rows c1])), (15, (51, [I ((gi picks i_110).Oper), I ((gi picks i_110).Result)]))]⟩
        refine andH (Hold.of hS (bks := [5, 15]) kr hD) ?_
        intro hH
        refine tk T [11, 12, 13, 14, 15] [5, 15] hS hH #[true, true, true, true, true, true, true, true, true, true, true, true, true, true, true, true] 0 ⟨[(1, Sl a2 l_ c2), (3, Sl a3 picks c3), (4, Pt 5 0), (13, I i_110), (14, Pt 15 0), (16, I r128.1), (17, I r128.2)], [(5, (24, [I o_.States, I o_.Kinds, I o_.Init, Sl a1 o_.Rows c1])), (15, (51, [I ((gi picks i_110).Oper), I ((gi picks i_110).Result)]))]⟩ fun a hS => ?_
        refine drawnDone kr ?_
        clear hD hH
        replace hS := hS.sl ⟨[(1, Sl a2 l_ c2), (3, Sl a3 picks c3), (4, Pt 5 0), (13, I i_110), (14, Pt 15 0), (16, I r128.1), (17, I r128.2)], [(5, (24, [I o_.States, I o_.Kinds, I o_.Init, Sl a1 o_.Rows c1])), (15, (51, [I ((gi picks i_110).Oper), I ((gi picks i_110).Result)]))]⟩
        refine wseq ?_
        refine rP T hS ⟨[(1, Sl a2 l_ c2), (3, Sl a3 picks c3), (4, Pt 5 0), (13, I i_110), (14, Pt 15 0), (16, I r128.1), (17, I r128.2), (83, B (r128.2 != 0))], [(5, (24, [I o_.States, I o_.Kinds, I o_.Init, Sl a1 o_.Rows c1])), (15, (51, [I ((gi picks i_110).Oper), I ((gi picks i_110).Result)]))]⟩ fun a hS => ?_
        refine wcond hS (b := (r128.2 != 0)) kr (fun hb => ?_) (fun hb => ?_)
        ·replace hm := hm.1 hb
         refine rP T hS ⟨[(8, I 0), (9, I i_110), (10, I r128.2)], []⟩ fun a hS => ?_
         refine wret ?_
         exact fin T hS hO (fun c => c) rfl (r := [.int .i64 0, .int .i64 i_110, .int .i64 r128.2]) kr (fun χ' hM hC => ⟨(0, i_110, r128.2), hm, rfl⟩)
        ·replace hm := hm.2 hb
         refine wskip ?_
         refine wseq ?_
         refine wcut (fun a w => ∃ (ρ : Nat → Nat) (χ : Nat → Nat) (x_131 : Bool), VC40_J3 Q I1 μ1 state_108 i_110 r128 x_131 ∧ St Try.f40.ntmps ⟨[(1, Sl a2 l_ c2), (3, Sl a3 picks c3), (4, Pt 5 0), (13, I i_110), (16, I r128.1), (103, B x_131)], [(5, (24, [I o_.States, I o_.Kinds, I o_.Init, Sl a1 o_.Rows c1]))]⟩ ρ a w χ ∧ Old w0 χ0 w χ ∧ RS tApi_Oper w χ a2 l_ c2 ∧ RS tApi_Pick w χ a3 picks c3 ∧ RS tApi_Row w χ a1 o_.Rows c1) ?_ ?_
         ·refine drawnX [5, 15] mixed hS ?_
          intro w133 χ134 hS hE hD hH
          replace hO := hO.mv hE rfl rfl
          replace h115 := h115.mv hE rfl
          replace h116 := h116.mv hE rfl
          replace h117 := h117.mv hE rfl
          clear hE
          refine tk T [0, 1, 2] [5, 15] hS hH #[true, true, true, false, false, false, false, false, false, false, false, false, false, false, false, false, false, false] 15 ⟨[(1, Sl a2 l_ c2), (3, Sl a3 picks c3), (4, Pt 5 0), (13, I i_110), (14, Pt 15 0), (16, I r128.1), (86, Sl a2 l_ c2), (88, I ((gi picks i_110).Oper))], [(5, (24, [I o_.States, I o_.Kinds, I o_.Init, Sl a1 o_.Rows c1])), (15, (51, [I ((gi picks i_110).Oper), I ((gi picks i_110).Result)]))]⟩ fun a hS => ?_
          obtain ⟨hq, hm⟩ := hm
          refine dindex (e := 45) (k := .i64) T 3 hS kr kr kr (by rfl) kr hH kr kr h115 kr kr hq.1 hq.2 ?_
          intro A135 a h136 hS
          clear hq
          have h136b := h136.here
          refine dfieldA (off := 3) (fsz := 1) (ft := 3) (TF := tI) (y := (gi l_ ((gi picks i_110).Oper)).End) 4 T hS kr kr kr (by rfl) kr hH kr h136 kr kr kr (fun cs h => Api_Oper_f3 h) ?_
          intro A137 a h138 hbl hS
          have h138b := h136b
          rw [← hbl] at h138b
          clear hbl
          refine dload1 T 5 hS kr kr kr (by rfl) kr hH kr h138 h138b rfl kr ?_
          intro v139 a hv hS
          cases hv
          refine tk T [6, 7] [5, 15] hS hH #[true, true, true, true, true, true, true, true, false, false, false, false, false, false, false, false, false, false] 10 ⟨[(1, Sl a2 l_ c2), (3, Sl a3 picks c3), (4, Pt 5 0), (13, I i_110), (14, Pt 15 0), (16, I r128.1), (93, B (((gi l_ ((gi picks i_110).Oper)).End) != (-1)))], [(5, (24, [I o_.States, I o_.Kinds, I o_.Init, Sl a1 o_.Rows c1])), (15, (51, [I ((gi picks i_110).Oper), I ((gi picks i_110).Result)]))]⟩ fun a hS => ?_
          rcases Bool.eq_false_or_eq_true (((gi l_ ((gi picks i_110).Oper)).End) != (-1)) with hb | hb
          ·replace hS := hS.lit (t := 93) kr hb
           replace hm := hm.1 hb
           refine tk T [8, 9, 14, 10, 15] [5, 15] hS hH #[true, true, true, true, true, true, true, true, true, true, true, false, false, false, true, true, false, false] 5 ⟨[(1, Sl a2 l_ c2), (3, Sl a3 picks c3), (4, Pt 5 0), (13, I i_110), (16, I r128.1), (93, B true), (94, Sl a2 l_ c2), (95, Pt 15 0), (96, I ((gi picks i_110).Oper)), (100, Pt 15 1), (101, I ((gi picks i_110).Result))], [(5, (24, [I o_.States, I o_.Kinds, I o_.Init, Sl a1 o_.Rows c1])), (15, (51, [I ((gi picks i_110).Oper), I ((gi picks i_110).Result)]))]⟩ fun a hS => ?_
           obtain ⟨hq, hm⟩ := hm
           refine dindex (e := 45) (k := .i64) T 11 hS kr kr kr (by rfl) kr hH kr kr h115 kr kr hq.1 hq.2 ?_
           intro A140 a h141 hS
           clear hq
           have h141b := h141.here
           refine dfieldA (off := 4) (fsz := 1) (ft := 3) (TF := tI) (y := (gi l_ ((gi picks i_110).Oper)).Result) 12 T hS kr kr kr (by rfl) kr hH kr h141 kr kr kr (fun cs h => Api_Oper_f4 h) ?_
           intro A142 a h143 hbl hS
           have h143b := h141b
           rw [← hbl] at h143b
           clear hbl
           refine dload1 T 13 hS kr kr kr (by rfl) kr hH kr h143 h143b rfl kr ?_
           intro v144 a hv hS
           cases hv
           refine tk T [16, 17] [5, 15] hS hH #[true, true, true, true, true, true, true, true, true, true, true, true, true, true, true, true, true, true] 0 ⟨[(1, Sl a2 l_ c2), (3, Sl a3 picks c3), (4, Pt 5 0), (13, I i_110), (16, I r128.1), (94, Sl a2 l_ c2), (95, Pt 15 0), (96, I ((gi picks i_110).Oper)), (97, V (.pointer (some A140))), (98, V (.pointer (some A142))), (99, I ((gi l_ ((gi picks i_110).Oper)).Result)), (100, Pt 15 1), (101, I ((gi picks i_110).Result)), (102, B (((gi l_ ((gi picks i_110).Oper)).Result) != ((gi picks i_110).Result))), (103, B (((gi l_ ((gi picks i_110).Oper)).Result) != ((gi picks i_110).Result)))], [(5, (24, [I o_.States, I o_.Kinds, I o_.Init, Sl a1 o_.Rows c1])), (15, (51, [I ((gi picks i_110).Oper), I ((gi picks i_110).Result)]))]⟩ fun a hS => ?_
           refine drawnDone kr ?_
           clear hD hH
           replace hS := hS.sl ⟨[(1, Sl a2 l_ c2), (3, Sl a3 picks c3), (4, Pt 5 0), (13, I i_110), (16, I r128.1), (94, Sl a2 l_ c2), (95, Pt 15 0), (96, I ((gi picks i_110).Oper)), (97, V (.pointer (some A140))), (98, V (.pointer (some A142))), (99, I ((gi l_ ((gi picks i_110).Oper)).Result)), (100, Pt 15 1), (101, I ((gi picks i_110).Result)), (102, B (((gi l_ ((gi picks i_110).Oper)).Result) != ((gi picks i_110).Result))), (103, B (((gi l_ ((gi picks i_110).Oper)).Result) != ((gi picks i_110).Result)))], [(5, (24, [I o_.States, I o_.Kinds, I o_.Init, Sl a1 o_.Rows c1])), (15, (51, [I ((gi picks i_110).Oper), I ((gi picks i_110).Result)]))]⟩
           exact ⟨ρ, _, (((gi l_ ((gi picks i_110).Oper)).Result) != ((gi picks i_110).Result)), hm, hS.sl _, hO, h115, h116, h117⟩
          ·replace hS := hS.lit (t := 93) kr hb
           replace hm := hm.2 hb
           refine tk T [8, 9, 14, 10, 15, 11, 12, 13, 16, 17] [5, 15] hS hH #[true, true, true, true, true, true, true, true, true, true, true, true, true, true, true, true, true, true] 0 ⟨[(1, Sl a2 l_ c2), (3, Sl a3 picks c3), (4, Pt 5 0), (13, I i_110), (16, I r128.1), (94, V undef), (95, V undef), (96, V undef), (97, V undef), (98, V undef), (99, V undef), (100, V undef), (101, V undef), (102, V undef), (103, B false)], [(5, (24, [I o_.States, I o_.Kinds, I o_.Init, Sl a1 o_.Rows c1])), (15, (51, [I ((gi picks i_110).Oper), I ((gi picks i_110).Result)]))]⟩ fun a hS => ?_
           refine drawnDone kr ?_
           clear hD hH
           replace hS := hS.sl ⟨[(1, Sl a2 l_ c2), (3, Sl a3 picks c3), (4, Pt 5 0), (13, I i_110), (16, I r128.1), (103, B false)], [(5, (24, [I o_.States, I o_.Kinds, I o_.Init, Sl a1 o_.Rows c1]))]⟩
           exact ⟨ρ, _, false, hm, hS.sl _, hO, h115, h116, h117⟩
         ·rintro a w146 ⟨ρ, χ145, x_131, hm, hS, hO, h129, h130, h132⟩
          unfold VC40_J3 at hm
          refine wcond hS (b := x_131) kr (fun hb => ?_) (fun hb => ?_)
          ·replace hm := hm.1 hb
           refine rP T hS ⟨[(8, I 0), (9, I i_110), (10, I 40)], []⟩ fun a hS => ?_
           refine wret ?_
           exact fin T hS hO (fun c => c) rfl (r := [.int .i64 0, .int .i64 i_110, .int .i64 40]) kr (fun χ' hM hC => ⟨(0, i_110, 40), hm, rfl⟩)
          ·replace hm := hm.2 hb
           refine wskip ?_
           refine region (eP T hS ⟨[(1, Sl a2 l_ c2), (2, I r128.1), (3, Sl a3 picks c3), (4, Pt 5 0), (13, I i_110)], [(5, (24, [I o_.States, I o_.Kinds, I o_.Init, Sl a1 o_.Rows c1]))]⟩ fun a hS => ?_)
           refine region (eP T hS ⟨[(1, Sl a2 l_ c2), (2, I r128.1), (3, Sl a3 picks c3), (4, Pt 5 0), (13, I (IntKind.i64.wrap (i_110 + 1)))], [(5, (24, [I o_.States, I o_.Kinds, I o_.Init, Sl a1 o_.Rows c1]))]⟩ fun a hS => ?_)
           exact ⟨⟨r128.1, IntKind.i64.wrap (i_110 + 1)⟩, ⟨ρ, _, hm.1, hS.sl _, hO, h129, h130, h132⟩, hm.2⟩
     ·replace hm := hm.2 hb
      refine wexit (by rfl) ?_
      exact ⟨ρ, _, state_108, hm, hS.sl _, hO, h109⟩
   ·rintro a w167 ⟨ρ, χ166, state_105, hm, hS, hO, h106⟩
    unfold VC40_J1 at hm
    refine rP T hS ⟨[(8, I state_105), (9, I ((picks.length : Nat) : Int)), (10, I 0)], []⟩ fun a hS => ?_
    refine wret ?_
    exact fin T hS hO (fun c => c) rfl (r := [.int .i64 state_105, .int .i64 ((picks.length : Nat) : Int), .int .i64 0]) kr (fun χ' hM hC => ⟨(state_105, ((picks.length : Nat) : Int), 0), hm, rfl⟩)
theorem C40 (k23 : S23) (k53 : S53) (v : ∀ (o_ : Api_Object) (l_ : List Api_Oper) (state : Int) (picks : List Api_Pick), VC40 o_ l_ state picks (fun r => r = ref28_From o_ l_ state picks)) : S40 := by
 intro w χ o_ l_ state picks a1 c1 a2 c2 a3 c3   h1 h2 h3
 refine (W40 k23 k53 w χ o_ l_ state picks a1 c1 a2 c2 a3 c3   _ (v o_ l_ state picks) h1 h2 h3).mono ?_
 rintro _ _ _ _ ⟨r, rfl, h⟩
 exact h
/-- replevin/replevinref27.Ahead -/
theorem W39 (w0 : World) (χ0 : Nat → Nat) (a_ : Api_Oper) (b_ : Api_Oper) (Q : Bool → Prop) (hm : VC39 a_ b_ Q) :
  Ret Try.prog 39 #[.agg #[.int .i64 a_.Prc, .int .i64 a_.Kind, .int .i64 a_.Start, .int .i64 a_.End, .int .i64 a_.Result], .agg #[.int .i64 b_.Prc, .int .i64 b_.Kind, .int .i64 b_.Start, .int .i64 b_.End, .int .i64 b_.Result]] xnone w0 χ0 (fun w χ' v => ∃ r, Q r ∧ v = .bool r) := by
 unfold VC39 at hm
 refine enter Try.func39 rfl (vals := [.agg #[.int .i64 a_.Prc, .int .i64 a_.Kind, .int .i64 a_.Start, .int .i64 a_.End, .int .i64 a_.Result], .agg #[.int .i64 b_.Prc, .int .i64 b_.Kind, .int .i64 b_.Start, .int .i64 b_.End, .int .i64 b_.Result]]) kr ?_
 intro ρ a hS hO hM
 clear hM
 refine rM T hS ⟨[(2, Pt 3 0), (3, Pt 4 0)], [(3, (45, [I a_.Prc, I a_.Kind, I a_.Start, I a_.End, I a_.Result])), (4, (45, [I b_.Prc, I b_.Kind, I b_.Start, I b_.End, I b_.Result]))]⟩ fun ρ a w101 χ102 hS hE hr => ?_
 replace hO := hO.mv hE rfl rfl
 clear hE hr
 refine rP T hS ⟨[(4, B ((decide (a_.End ≥ 0)) && (decide (b_.Start > a_.End))))], []⟩ (sp := [8]) fun a hS => ?_
 refine wret ?_
 exact fin T hS hO (fun c => c) rfl (r := [.bool ((decide (a_.End ≥ 0)) && (decide (b_.Start > a_.End)))]) kr (fun χ' hM hC => ⟨((decide (a_.End ≥ 0)) && (decide (b_.Start > a_.End))), hm, rfl⟩)
theorem C39 (v : ∀ (a_ : Api_Oper) (b_ : Api_Oper), VC39 a_ b_ (fun r => r = ref27_Ahead a_ b_)) : S39 := by
 intro w χ a_ b_    
 refine (W39 w χ a_ b_    _ (v a_ b_)).mono ?_
 rintro _ _ _ _ ⟨r, rfl, h⟩
 exact h
/-- replevin/replevinref29.Lin -/
theorem W27 (k39 : S39) (k40 : S40) (k42 : S42) (w0 : World) (χ0 : Nat → Nat) (o_ : Api_Object) (l_ : List Api_Oper) (picks : List Api_Pick) (a1 : Option Addr) (c1 : Nat) (a2 : Option Addr) (c2 : Nat) (a3 : Option Addr) (c3 : Nat) (Q : Bool → Prop) (hm : VC27 o_ l_ picks Q) (h1 : RS tApi_Row w0 χ0 a1 o_.Rows c1) (h2 : RS tApi_Oper w0 χ0 a2 l_ c2) (h3 : RS tApi_Pick w0 χ0 a3 picks c3) :
  Ret Try.prog 27 #[.agg #[.int .i64 o_.States, .int .i64 o_.Kinds, .int .i64 o_.Init, .slice a1 o_.Rows.length c1], .slice a2 l_.length c2, .slice a3 picks.length c3] xnone w0 χ0 (fun w χ' v => ∃ r, Q r ∧ v = .bool r) := by
 unfold VC27 at hm
 replace hm := hm (h1.sm kr)
 replace hm := hm (h2.sm kr)
 replace hm := hm (h3.sm kr)
 refine enter Try.func27 rfl (vals := [.agg #[.int .i64 o_.States, .int .i64 o_.Kinds, .int .i64 o_.Init, .slice a1 o_.Rows.length c1], .slice a2 l_.length c2, .slice a3 picks.length c3]) kr ?_
 intro ρ a hS hO hM
 replace h1 := h1.m0 hM
 replace h2 := h2.m0 hM
 replace h3 := h3.m0 hM
 clear hM
 refine rM T hS ⟨[(1, Sl a2 l_ c2), (2, Sl a3 picks c3), (3, Pt 4 0)], [(4, (24, [I o_.States, I o_.Kinds, I o_.Init, Sl a1 o_.Rows c1]))]⟩ fun ρ a w160 χ161 hS hE hr => ?_
 replace hO := hO.mv hE rfl rfl
 replace h1 := h1.mv hE rfl
 replace h2 := h2.mv hE rfl
 replace h3 := h3.mv hE rfl
 clear hE hr
 refine regO ?_
 refine oP T hS 5 ⟨[(1, Sl a2 l_ c2), (2, Sl a3 picks c3), (15, V (.agg #[.int .i64 o_.States, .int .i64 o_.Kinds, .int .i64 o_.Init, .slice a1 o_.Rows.length c1])), (16, Sl a2 l_ c2), (18, I o_.Init), (19, Sl a3 picks c3)], []⟩ fun a hS => ?_
 refine op1 (call hS kr kr hb40 kr (fun _ _ => rfl) (k40 _ _ o_ l_ o_.Init picks a1 c1 a2 c2 a3 c3 h1 h2 h3) ?_)
 intro v101 a w102 χ103 hE hp hS
 replace hO := hO.mv hE rfl rfl
 replace h1 := h1.mv hE rfl
 replace h2 := h2.mv hE rfl
 replace h3 := h3.mv hE rfl
 clear hE
 obtain ⟨r104, hr⟩ : ∃ r, ref28_From o_ l_ o_.Init picks = r := ⟨_, rfl⟩
 replace hm := hm r104 hr
 rw [hr] at hp
 clear hr
 subst hp
 refine eP T hS ⟨[(1, Sl a2 l_ c2), (2, Sl a3 picks c3), (9, I r104.2.2)], []⟩ fun a hS => ?_
 refine wseq ?_
 refine rP T hS ⟨[(1, Sl a2 l_ c2), (2, Sl a3 picks c3), (25, B (r104.2.2 != 0))], []⟩ fun a hS => ?_
 refine wcond hS (b := (r104.2.2 != 0)) kr (fun hb => ?_) (fun hb => ?_)
 ·replace hm := hm.1 hb
  refine rP T hS ⟨[(6, B false)], []⟩ fun a hS => ?_
  refine wret ?_
  exact fin T hS hO (fun c => c) rfl (r := [.bool false]) kr (fun χ' hM hC => ⟨false, hm, rfl⟩)
 ·replace hm := hm.2 hb
  refine wskip ?_
  refine wcut (fun a w => ∃ (ρ : Nat → Nat) (χ : Nat → Nat), VC27_J1 Q ∧ St Try.f27.ntmps ⟨[], []⟩ ρ a w χ ∧ Old w0 χ0 w χ) ?_ ?_
  ·refine rP T hS ⟨[(1, Sl a2 l_ c2), (2, Sl a3 picks c3), (10, I 0)], []⟩ fun a hS => ?_
   refine wblock ?_
   obtain ⟨I1, μ1, hm0, hm⟩ := hm
   refine wloop (σ := Int) (fun s a w => ∃ (ρ : Nat → Nat) (χ : Nat → Nat), I1 s ∧ St Try.f27.ntmps ⟨[(1, Sl a2 l_ c2), (2, Sl a3 picks c3), (10, I s)], []⟩ ρ a w χ ∧ Old w0 χ0 w χ ∧ RS tApi_Oper w χ a2 l_ c2 ∧ RS tApi_Pick w χ a3 picks c3) (fun s => μ1 s) (0) ?_ ?_
   ·exact ⟨ρ, _, hm0, hS.sl _, hO, h2, h3⟩
   ·rintro i_107 a w157 ⟨ρ, χ156, hI, hS, hO, h105, h106⟩
    replace hm := hm i_107 hI
    clear hI hm0
    refine wseq ?_
    refine rP T hS ⟨[(1, Sl a2 l_ c2), (2, Sl a3 picks c3), (10, I i_107), (29, B (decide (i_107 < ((l_.length : Nat) : Int))))], []⟩ fun a hS => ?_
    refine wcond hS (b := decide (i_107 < ((l_.length : Nat) : Int))) kr (fun hb => ?_) (fun hb => ?_)
    ·replace hm := hm.1 hb
     refine wskip ?_
     refine wcut (fun a w => ∃ (ρ : Nat → Nat) (χ : Nat → Nat), VC27_J2 I1 μ1 i_107 ∧ St Try.f27.ntmps ⟨[(1, Sl a2 l_ c2), (2, Sl a3 picks c3), (10, I i_107)], []⟩ ρ a w χ ∧ Old w0 χ0 w χ ∧ RS tApi_Oper w χ a2 l_ c2 ∧ RS tApi_Pick w χ a3 picks c3) ?_ ?_
     ·refine wblock ?_
      refine wseq ?_
      refine wcut (fun a w => ∃ (ρ : Nat → Nat) (χ : Nat → Nat) (x_112 : Bool), VC27_J3 l_ picks Q I1 μ1 i_107 x_112 ∧ St Try.f27.ntmps ⟨[(1, Sl a2 l_ c2), (2, Sl a3 picks c3), (10, I i_107), (43, B x_112)], []⟩ ρ a w χ ∧ Old w0 χ0 w χ ∧ RS tApi_Oper w χ a2 l_ c2 ∧ RS tApi_Pick w χ a3 picks c3) ?_ ?_
      ·refine region ?_
       refine oP T hS 2 ⟨[(1, Sl a2 l_ c2), (2, Sl a3 picks c3), (10, I i_107), (32, Sl a2 l_ c2), (33, I i_107)], []⟩ fun a hS => ?_
       obtain ⟨hq, hm⟩ := hm
       refine op1 (index (e := 45) (k := .i64) T hS kr kr kr kr h105 kr kr hq.1 hq.2 ?_)
       intro A143 a h144 hS
       clear hq
       refine op1 (fieldA (off := 3) (fsz := 1) (ft := 3) (TF := tI) (y := (gi l_ i_107).End) T hS kr kr kr h144 kr kr kr (fun cs h => Api_Oper_f3 h) ?_)
       intro A145 a h146 hS
       refine op1 (load1 T hS kr kr kr h146 rfl kr ?_)
       intro v147 a hv hS
       cases hv
       refine oP T hS 2 ⟨[(1, Sl a2 l_ c2), (2, Sl a3 picks c3), (10, I i_107), (38, B (((gi l_ i_107).End) != (-1)))], []⟩ fun a hS => ?_
       rcases Bool.eq_false_or_eq_true (((gi l_ i_107).End) != (-1)) with hb | hb
       ·replace hS := hS.lit (t := 38) kr hb
        replace hm := hm.1 hb
        refine oP T hS 2 ⟨[(1, Sl a2 l_ c2), (2, Sl a3 picks c3), (10, I i_107), (38, B true), (39, Sl a3 picks c3), (40, I i_107)], []⟩ fun a hS => ?_
        refine op1 (call hS kr kr hb42 kr (fun _ _ => rfl) (k42 _ _ picks i_107 a3 c3 h106) ?_)
        intro v148 a w149 χ150 hE hp hS
        replace hO := hO.mv hE rfl rfl
        replace h105 := h105.mv hE rfl
        replace h106 := h106.mv hE rfl
        clear hE
        obtain ⟨r151, hr⟩ : ∃ r, ref29_Place picks i_107 = r := ⟨_, rfl⟩
        replace hm := hm r151 hr
        rw [hr] at hp
        clear hr
        subst hp
        refine eP T hS ⟨[(1, Sl a2 l_ c2), (2, Sl a3 picks c3), (10, I i_107), (39, Sl a3 picks c3), (40, I i_107), (41, I r151), (42, B (decide (r151 < 0))), (43, B (decide (r151 < 0)))], []⟩ fun a hS => ?_
        exact ⟨ρ, _, decide (r151 < 0), hm, hS.sl _, hO, h105, h106⟩
       ·replace hS := hS.lit (t := 38) kr hb
        replace hm := hm.2 hb
        refine eP T hS ⟨[(1, Sl a2 l_ c2), (2, Sl a3 picks c3), (10, I i_107), (43, B false)], []⟩ fun a hS => ?_
        exact ⟨ρ, _, false, hm, hS.sl _, hO, h105, h106⟩
      ·rintro a w153 ⟨ρ, χ152, x_112, hm, hS, hO, h110, h111⟩
       unfold VC27_J3 at hm
       refine wcond hS (b := x_112) kr (fun hb => ?_) (fun hb => ?_)
       ·replace hm := hm.1 hb
        refine rP T hS ⟨[(6, B false)], []⟩ fun a hS => ?_
        refine wret ?_
        exact fin T hS hO (fun c => c) rfl (r := [.bool false]) kr (fun χ' hM hC => ⟨false, hm, rfl⟩)
       ·replace hm := hm.2 hb
        refine wskip ?_
        refine rP T hS ⟨[(1, Sl a2 l_ c2), (2, Sl a3 picks c3), (10, I i_107), (11, I 0)], []⟩ fun a hS => ?_
        refine wblock ?_
        obtain ⟨I2, μ2, hm0, hm⟩ := hm
        refine wloop (σ := Int) (fun s a w => ∃ (ρ : Nat → Nat) (χ : Nat → Nat), I2 s ∧ St Try.f27.ntmps ⟨[(1, Sl a2 l_ c2), (2, Sl a3 picks c3), (10, I i_107), (11, I s)], []⟩ ρ a w χ ∧ Old w0 χ0 w χ ∧ RS tApi_Oper w χ a2 l_ c2 ∧ RS tApi_Pick w χ a3 picks c3) (fun s => μ2 s) (0) ?_ ?_
        ·exact ⟨ρ, _, hm0, hS.sl _, hO, h110, h111⟩
        ·rintro k_115 a w142 ⟨ρ, χ141, hI, hS, hO, h113, h114⟩
         replace hm := hm k_115 hI
         clear hI hm0
         refine wseq ?_
         refine rP T hS ⟨[(1, Sl a2 l_ c2), (2, Sl a3 picks c3), (10, I i_107), (11, I k_115), (47, B (decide (k_115 < ((l_.length : Nat) : Int))))], []⟩ fun a hS => ?_
         refine wcond hS (b := decide (k_115 < ((l_.length : Nat) : Int))) kr (fun hb => ?_) (fun hb => ?_)
         ·replace hm := hm.1 hb
          refine wskip ?_
          refine wseq ?_
          refine wblock ?_
          refine regO ?_
          refine oP T hS 2 ⟨[(1, Sl a2 l_ c2), (2, Sl a3 picks c3), (10, I i_107), (11, I k_115), (50, Sl a3 picks c3), (51, I i_107)], []⟩ fun a hS => ?_
          refine op1 (call hS kr kr hb42 kr (fun _ _ => rfl) (k42 _ _ picks i_107 a3 c3 h114) ?_)
          intro v116 a w117 χ118 hE hp hS
          replace hO := hO.mv hE rfl rfl
          replace h113 := h113.mv hE rfl
          replace h114 := h114.mv hE rfl
          clear hE
          obtain ⟨r119, hr⟩ : ∃ r, ref29_Place picks i_107 = r := ⟨_, rfl⟩
          replace hm := hm r119 hr
          rw [hr] at hp
          clear hr
          subst hp
          refine oP T hS 2 ⟨[(1, Sl a2 l_ c2), (2, Sl a3 picks c3), (10, I i_107), (11, I k_115), (52, I r119), (53, Sl a3 picks c3), (54, I k_115)], []⟩ fun a hS => ?_
          refine op1 (call hS kr kr hb42 kr (fun _ _ => rfl) (k42 _ _ picks k_115 a3 c3 h114) ?_)
          intro v120 a w121 χ122 hE hp hS
          replace hO := hO.mv hE rfl rfl
          replace h113 := h113.mv hE rfl
          replace h114 := h114.mv hE rfl
          clear hE
          obtain ⟨r123, hr⟩ : ∃ r, ref29_Place picks k_115 = r := ⟨_, rfl⟩
          replace hm := hm r123 hr
          rw [hr] at hp
          clear hr
          subst hp
          refine eP T hS ⟨[(1, Sl a2 l_ c2), (2, Sl a3 picks c3), (10, I i_107), (11, I k_115), (12, I r119), (13, I r123)], []⟩ fun a hS => ?_
          refine wcut (fun a w => ∃ (ρ : Nat → Nat) (χ : Nat → Nat) (x_126 : Bool), VC27_J4 Q I2 μ2 k_115 x_126 ∧ St Try.f27.ntmps ⟨[(1, Sl a2 l_ c2), (2, Sl a3 picks c3), (10, I i_107), (11, I k_115), (77, B x_126)], []⟩ ρ a w χ ∧ Old w0 χ0 w χ ∧ RS tApi_Oper w χ a2 l_ c2 ∧ RS tApi_Pick w χ a3 picks c3) ?_ ?_
          ·refine drawnX [] mixed hS ?_
           intro w127 χ128 hS hE hD hH
           replace hO := hO.mv hE rfl rfl
           replace h113 := h113.mv hE rfl
           replace h114 := h114.mv hE rfl
           clear hE
           refine tk T [0, 1, 4, 5] [] hS hH #[true, true, false, false, true, true, false, false, false, false, false, false, false, false, false, false, false, false, false, false, false, false] 18 ⟨[(1, Sl a2 l_ c2), (2, Sl a3 picks c3), (10, I i_107), (11, I k_115), (12, I r119), (13, I r123), (56, Sl a2 l_ c2), (57, I i_107), (60, Sl a2 l_ c2), (61, I k_115)], []⟩ fun a hS => ?_
           obtain ⟨hq, hm⟩ := hm
           refine dindex (e := 45) (k := .i64) T 2 hS kr kr kr (by rfl) kr hH kr kr h113 kr kr hq.1 hq.2 ?_
           intro A129 a h130 hS
           clear hq
           have h130b := h130.here
           refine dloadA T 3 hS kr kr kr (by rfl) kr hH kr h130 h130b kr kr ?_
           intro v131 a hv hS
           subst hv
           obtain ⟨hq, hm⟩ := hm
           refine dindex (e := 45) (k := .i64) T 6 hS kr kr kr (by rfl) kr hH kr kr h113 kr kr hq.1 hq.2 ?_
           intro A132 a h133 hS
           clear hq
           have h133b := h133.here
           refine dloadA T 7 hS kr kr kr (by rfl) kr hH kr h133 h133b kr kr ?_
           intro v134 a hv hS
           subst hv
           refine only 8 kr (by rfl) (call hS kr kr hb39 kr (fun _ _ => rfl) (k39 _ _ (gi l_ i_107) (gi l_ k_115)) ?_)
           intro v135 a w136 χ137 hE hp hS
           replace hO := hO.mv hE rfl rfl
           replace hD := hD.ev hE rfl
           replace h113 := h113.mv hE rfl
           replace h114 := h114.mv hE rfl
           replace h130 := h130.mv hE rfl
           replace h133 := h133.mv hE rfl
           clear hE
           obtain ⟨r138, hr⟩ : ∃ r, ref27_Ahead (gi l_ i_107) (gi l_ k_115) = r := ⟨_, rfl⟩
           replace hm := hm r138 hr
           rw [hr] at hp
           clear hr
           subst hp
           refine andH (Hold.of hS (bks := []) kr hD) ?_
           intro hH
           refine tk T [9] [] hS hH #[true, true, true, true, true, true, true, true, true, true, false, false, false, false, false, false, false, false, false, false, false, false] 12 ⟨[(1, Sl a2 l_ c2), (2, Sl a3 picks c3), (10, I i_107), (11, I k_115), (12, I r119), (13, I r123), (65, B r138)], []⟩ fun a hS => ?_
           rcases Bool.eq_false_or_eq_true r138 with hb | hb
           ·replace hS := hS.lit (t := 65) kr hb
            replace hm := hm.1 hb
            refine tk T [10, 11, 12, 13] [] hS hH #[true, true, true, true, true, true, true, true, true, true, true, true, true, true, false, false, false, false, false, false, false, false] 8 ⟨[(1, Sl a2 l_ c2), (2, Sl a3 picks c3), (10, I i_107), (11, I k_115), (12, I r119), (13, I r123), (66, I r123), (67, B (decide (r123 ≥ 0))), (69, B (decide (r123 ≥ 0)))], []⟩ fun a hS => ?_
            rcases Bool.eq_false_or_eq_true (decide (r123 ≥ 0)) with hb | hb
            ·replace hS := hS.lit (t := 69) kr hb
             replace hm := hm.1 hb
             refine tk T [14, 15, 16] [] hS hH #[true, true, true, true, true, true, true, true, true, true, true, true, true, true, true, true, true, false, false, false, false, false] 5 ⟨[(1, Sl a2 l_ c2), (2, Sl a3 picks c3), (10, I i_107), (11, I k_115), (12, I r119), (13, I r123), (66, I r123), (67, B (decide (r123 ≥ 0))), (69, B true), (70, I r119), (71, B (decide (r119 < 0))), (72, B (decide (r119 < 0)))], []⟩ fun a hS => ?_
             rcases Bool.eq_false_or_eq_true (decide (r119 < 0)) with hb | hb
             ·replace hS := hS.lit (t := 72) kr hb
              replace hm := hm.1 hb
              refine tk T [17, 18, 19, 20, 21] [] hS hH #[true, true, true, true, true, true, true, true, true, true, true, true, true, true, true, true, true, true, true, true, true, true] 0 ⟨[(1, Sl a2 l_ c2), (2, Sl a3 picks c3), (10, I i_107), (11, I k_115), (66, I r123), (67, B (decide (r123 ≥ 0))), (70, I r119), (71, B (decide (r119 < 0))), (72, B true), (73, V undef), (74, V undef), (75, V undef), (76, B true), (77, B true)], []⟩ fun a hS => ?_
              refine drawnDone kr ?_
              clear hD hH
              replace hS := hS.sl ⟨[(1, Sl a2 l_ c2), (2, Sl a3 picks c3), (10, I i_107), (11, I k_115), (66, I r123), (67, B (decide (r123 ≥ 0))), (70, I r119), (71, B (decide (r119 < 0))), (72, B true), (76, B true), (77, B true)], []⟩
              exact ⟨ρ, _, true, hm, hS.sl _, hO, h113, h114⟩
             ·replace hS := hS.lit (t := 72) kr hb
              replace hm := hm.2 hb
              refine tk T [17, 18, 19, 20, 21] [] hS hH #[true, true, true, true, true, true, true, true, true, true, true, true, true, true, true, true, true, true, true, true, true, true] 0 ⟨[(1, Sl a2 l_ c2), (2, Sl a3 picks c3), (10, I i_107), (11, I k_115), (66, I r123), (67, B (decide (r123 ≥ 0))), (70, I r119), (71, B (decide (r119 < 0))), (72, B false), (73, I r119), (74, I r123), (75, B (decide (r119 > r123))), (76, B (decide (r119 > r123))), (77, B (decide (r119 > r123)))], []⟩ fun a hS => ?_
              refine drawnDone kr ?_
              clear hD hH
              replace hS := hS.sl ⟨[(1, Sl a2 l_ c2), (2, Sl a3 picks c3), (10, I i_107), (11, I k_115), (66, I r123), (67, B (decide (r123 ≥ 0))), (70, I r119), (71, B (decide (r119 < 0))), (72, B false), (73, I r119), (74, I r123), (75, B (decide (r119 > r123))), (76, B (decide (r119 > r123))), (77, B (decide (r119 > r123)))], []⟩
              exact ⟨ρ, _, decide (r119 > r123), hm, hS.sl _, hO, h113, h114⟩
            ·replace hS := hS.lit (t := 69) kr hb
             replace hm := hm.2 hb
             refine tk T [14, 15, 16, 17, 18, 19, 20, 21] [] hS hH #[true, true, true, true, true, true, true, true, true, true, true, true, true, true, true, true, true, true, true, true, true, true] 0 ⟨[(1, Sl a2 l_ c2), (2, Sl a3 picks c3), (10, I i_107), (11, I k_115), (66, I r123), (67, B (decide (r123 ≥ 0))), (70, V undef), (71, V undef), (72, V undef), (73, V undef), (74, V undef), (75, V undef), (76, V undef), (77, B false)], []⟩ fun a hS => ?_
             refine drawnDone kr ?_
             clear hD hH
             replace hS := hS.sl ⟨[(1, Sl a2 l_ c2), (2, Sl a3 picks c3), (10, I i_107), (11, I k_115), (66, I r123), (67, B (decide (r123 ≥ 0))), (77, B false)], []⟩
             exact ⟨ρ, _, false, hm, hS.sl _, hO, h113, h114⟩
           ·replace hS := hS.lit (t := 65) kr hb
            replace hm := hm.2 hb
            refine tk T [10, 11, 12, 13, 14, 15, 16, 17, 18, 19, 20, 21] [] hS hH #[true, true, true, true, true, true, true, true, true, true, true, true, true, true, true, true, true, true, true, true, true, true] 0 ⟨[(1, Sl a2 l_ c2), (2, Sl a3 picks c3), (10, I i_107), (11, I k_115), (66, V undef), (67, V undef), (70, V undef), (71, V undef), (72, V undef), (73, V undef), (74, V undef), (75, V undef), (76, V undef), (77, B false)], []⟩ fun a hS => ?_
            refine drawnDone kr ?_
            clear hD hH
            replace hS := hS.sl ⟨[(1, Sl a2 l_ c2), (2, Sl a3 picks c3), (10, I i_107), (11, I k_115), (77, B false)], []⟩
            exact ⟨ρ, _, false, hm, hS.sl _, hO, h113, h114⟩
          ·rintro a w140 ⟨ρ, χ139, x_126, hm, hS, hO, h124, h125⟩
           unfold VC27_J4 at hm
           refine wcond hS (b := x_126) kr (fun hb => ?_) (fun hb => ?_)
           ·replace hm := hm.1 hb
            refine rP T hS ⟨[(6, B false)], []⟩ fun a hS => ?_
            refine wret ?_
            exact fin T hS hO (fun c => c) rfl (r := [.bool false]) kr (fun χ' hM hC => ⟨false, hm, rfl⟩)
           ·replace hm := hm.2 hb
            refine wskip ?_
            refine region (eP T hS ⟨[(1, Sl a2 l_ c2), (2, Sl a3 picks c3), (10, I i_107), (11, I (IntKind.i64.wrap (k_115 + 1)))], []⟩ fun a hS => ?_)
            exact ⟨IntKind.i64.wrap (k_115 + 1), ⟨ρ, _, hm.1, hS.sl _, hO, h124, h125⟩, hm.2⟩
         ·replace hm := hm.2 hb
          refine wexit (by rfl) ?_
          exact ⟨ρ, _, hm, hS.sl _, hO, h113, h114⟩
     ·rintro a w155 ⟨ρ, χ154, hm, hS, hO, h108, h109⟩
      unfold VC27_J2 at hm
      refine region (eP T hS ⟨[(1, Sl a2 l_ c2), (2, Sl a3 picks c3), (10, I (IntKind.i64.wrap (i_107 + 1)))], []⟩ fun a hS => ?_)
      exact ⟨IntKind.i64.wrap (i_107 + 1), ⟨ρ, _, hm.1, hS.sl _, hO, h108, h109⟩, hm.2⟩
    ·replace hm := hm.2 hb
     refine wexit (by rfl) ?_
     exact ⟨ρ, _, hm, hS.sl _, hO⟩
  ·rintro a w159 ⟨ρ, χ158, hm, hS, hO⟩
   unfold VC27_J1 at hm
   refine rP T hS ⟨[(6, B true)], []⟩ fun a hS => ?_
   refine wret ?_
   exact fin T hS hO (fun c => c) rfl (r := [.bool true]) kr (fun χ' hM hC => ⟨true, hm, rfl⟩)
theorem C27 (k39 : S39) (k40 : S40) (k42 : S42) (v : ∀ (o_ : Api_Object) (l_ : List Api_Oper) (picks : List Api_Pick), VC27 o_ l_ picks (fun r => r = ref29_Lin o_ l_ picks)) : S27 := by
 intro w χ o_ l_ picks a1 c1 a2 c2 a3 c3   h1 h2 h3
 refine (W27 k39 k40 k42 w χ o_ l_ picks a1 c1 a2 c2 a3 c3   _ (v o_ l_ picks) h1 h2 h3).mono ?_
 rintro _ _ _ _ ⟨r, rfl, h⟩
 exact h
/-- replevin/replevinref28.Fill -/
theorem W26 (k40 : S40) (k41 : S41) (w0 : World) (χ0 : Nat → Nat) (o_ : Api_Object) (l_ : List Api_Oper) (order : List Int) (a1 : Option Addr) (c1 : Nat) (a2 : Option Addr) (c2 : Nat) (a3 : Option Addr) (c3 : Nat) (Q : (List Api_Pick) × Int → Prop) (hm : VC26 o_ l_ order Q) (h1 : RS tApi_Row w0 χ0 a1 o_.Rows c1) (h2 : RS tApi_Oper w0 χ0 a2 l_ c2) (h3 : RS tI w0 χ0 a3 order c3) :
  Ret Try.prog 26 #[.agg #[.int .i64 o_.States, .int .i64 o_.Kinds, .int .i64 o_.Init, .slice a1 o_.Rows.length c1], .slice a2 l_.length c2, .slice a3 order.length c3] xnone w0 χ0 (fun w χ' v => ∃ r, Q r ∧ ∃ (ra1 : Option Addr) (rc1 : Nat), v = .tuple #[.slice ra1 r.1.length rc1, .int .i64 r.2] ∧ RS tApi_Pick w χ' ra1 r.1 rc1) := by
 unfold VC26 at hm
 replace hm := hm (h1.sm kr)
 replace hm := hm (h2.sm kr)
 replace hm := hm (h3.sm kr)
 refine enter Try.func26 rfl (vals := [.agg #[.int .i64 o_.States, .int .i64 o_.Kinds, .int .i64 o_.Init, .slice a1 o_.Rows.length c1], .slice a2 l_.length c2, .slice a3 order.length c3]) kr ?_
 intro ρ a hS hO hM
 replace h1 := h1.m0 hM
 replace h2 := h2.m0 hM
 replace h3 := h3.m0 hM
 clear hM
 refine rM T hS ⟨[(1, Sl a2 l_ c2), (2, Sl a3 order c3), (3, Pt 4 0)], [(4, (24, [I o_.States, I o_.Kinds, I o_.Init, Sl a1 o_.Rows c1]))]⟩ fun ρ a w184 χ185 hS hE hr => ?_
 replace hO := hO.mv hE rfl rfl
 replace h1 := h1.mv hE rfl
 replace h2 := h2.mv hE rfl
 replace h3 := h3.mv hE rfl
 clear hE hr
 refine rP T hS ⟨[(1, Sl a2 l_ c2), (2, Sl a3 order c3), (3, Pt 4 0), (8, V (.slice none 0 0))], [(4, (24, [I o_.States, I o_.Kinds, I o_.Init, Sl a1 o_.Rows c1]))]⟩ fun a hS => ?_
 refine regO ?_
 refine oP T hS 5 ⟨[(1, Sl a2 l_ c2), (2, Sl a3 order c3), (3, Pt 4 0), (8, V (.slice none 0 0)), (15, V (.agg #[.int .i64 o_.States, .int .i64 o_.Kinds, .int .i64 o_.Init, .slice a1 o_.Rows.length c1])), (16, Sl a2 l_ c2), (18, I o_.Init), (19, V (.slice none 0 0))], [(4, (24, [I o_.States, I o_.Kinds, I o_.Init, Sl a1 o_.Rows c1]))]⟩ fun a hS => ?_
 refine op1 (call hS kr kr hb40 kr (fun _ _ => rfl) (k40 _ _ o_ l_ o_.Init [] a1 c1 a2 c2 none 0 h1 h2 (RS.empty _ _ _)) ?_)
 intro v101 a w102 χ103 hE hp hS
 replace hO := hO.mv hE rfl rfl
 replace h1 := h1.mv hE rfl
 replace h2 := h2.mv hE rfl
 replace h3 := h3.mv hE rfl
 clear hE
 obtain ⟨r104, hr⟩ : ∃ r, ref28_From o_ l_ o_.Init [] = r := ⟨_, rfl⟩
 replace hm := hm r104 hr
 rw [hr] at hp
 clear hr
 subst hp
 refine eP T hS ⟨[(1, Sl a2 l_ c2), (2, Sl a3 order c3), (3, Pt 4 0), (8, V (.slice none 0 0)), (9, I r104.1), (11, I r104.2.2)], [(4, (24, [I o_.States, I o_.Kinds, I o_.Init, Sl a1 o_.Rows c1]))]⟩ fun a hS => ?_
 refine wseq ?_
 refine rP T hS ⟨[(1, Sl a2 l_ c2), (2, Sl a3 order c3), (3, Pt 4 0), (8, V (.slice none 0 0)), (9, I r104.1), (11, I r104.2.2), (25, B (r104.2.2 != 0))], [(4, (24, [I o_.States, I o_.Kinds, I o_.Init, Sl a1 o_.Rows c1]))]⟩ fun a hS => ?_
 refine wcond hS (b := (r104.2.2 != 0)) kr (fun hb => ?_) (fun hb => ?_)
 ·replace hm := hm.1 hb
  refine rP T hS ⟨[(6, V (.slice none 0 0)), (7, I r104.2.2)], []⟩ fun a hS => ?_
  refine wret ?_
  exact fin T hS hO (fun c => c) rfl (r := [.slice none 0 0, .int .i64 r104.2.2]) kr (fun χ' hM hC => ⟨([], r104.2.2), hm, none, 0, rfl, RS.empty _ _ _⟩)
 ·replace hm := hm.2 hb
  refine wskip ?_
  refine wcut (fun a w => ∃ (ρ : Nat → Nat) (χ : Nat → Nat) (out_105 : List Api_Pick) (a106 : Option Addr) (c107 : Nat), VC26_J1 Q out_105 ∧ St Try.f26.ntmps ⟨[(8, Sl a106 out_105 c107)], []⟩ ρ a w χ ∧ Old w0 χ0 w χ ∧ OS tApi_Pick 51 w χ 1007 a106 out_105 c107) ?_ ?_
  ·refine rP T hS ⟨[(1, Sl a2 l_ c2), (2, Sl a3 order c3), (3, Pt 4 0), (8, V (.slice none 0 0)), (9, I r104.1), (12, I 0)], [(4, (24, [I o_.States, I o_.Kinds, I o_.Init, Sl a1 o_.Rows c1]))]⟩ fun a hS => ?_
   refine wblock ?_
   obtain ⟨I1, μ1, hm0, hm⟩ := hm
   refine wloop (σ := (List Api_Pick) × Int × Int) (fun s a w => ∃ (ρ : Nat → Nat) (χ : Nat → Nat) (a114 : Option Addr) (c115 : Nat), I1 s.1 s.2.1 s.2.2 ∧ St Try.f26.ntmps ⟨[(1, Sl a2 l_ c2), (2, Sl a3 order c3), (3, Pt 4 0), (8, Sl a114 s.1 c115), (9, I s.2.1), (12, I s.2.2)], [(4, (24, [I o_.States, I o_.Kinds, I o_.Init, Sl a1 o_.Rows c1]))]⟩ ρ a w χ ∧ Old w0 χ0 w χ ∧ RS tApi_Oper w χ a2 l_ c2 ∧ RS tI w χ a3 order c3 ∧ OS tApi_Pick 51 w χ 1007 a114 s.1 c115 ∧ RS tApi_Row w χ a1 o_.Rows c1) (fun s => μ1 s.1 s.2.1 s.2.2) (⟨[], r104.1, 0⟩) ?_ ?_
   ·exact ⟨ρ, _, none, 0, hm0, hS.sl _, hO, h2, h3, (OS.nil _ _ _ _ _), h1⟩
   ·rintro ⟨out_113, state_117, i_118⟩ a w181 ⟨ρ, χ180, a114, c115, hI, hS, hO, h111, h112, h116, h119⟩
    replace hm := hm out_113 state_117 i_118 hI
    clear hI hm0
    refine wseq ?_
    refine rP T hS ⟨[(1, Sl a2 l_ c2), (2, Sl a3 order c3), (3, Pt 4 0), (8, Sl a114 out_113 c115), (9, I state_117), (12, I i_118), (30, B (decide (i_118 < ((order.length : Nat) : Int))))], [(4, (24, [I o_.States, I o_.Kinds, I o_.Init, Sl a1 o_.Rows c1]))]⟩ fun a hS => ?_
    refine wcond hS (b := decide (i_118 < ((order.length : Nat) : Int))) kr (fun hb => ?_) (fun hb => ?_)
    ·replace hm := hm.1 hb
     refine wskip ?_
     refine wseq ?_
     refine wblock ?_
     refine regO ?_
     refine oP T hS 2 ⟨[(1, Sl a2 l_ c2), (2, Sl a3 order c3), (3, Pt 4 0), (8, Sl a114 out_113 c115), (9, I state_117), (12, I i_118), (33, Sl a3 order c3), (34, I i_118)], [(4, (24, [I o_.States, I o_.Kinds, I o_.Init, Sl a1 o_.Rows c1]))]⟩ fun a hS => ?_
     obtain ⟨hq, hm⟩ := hm
     refine op1 (index (e := 3) (k := .i64) T hS kr kr kr kr h112 kr kr hq.1 hq.2 ?_)
     intro A120 a h121 hS
     clear hq
     refine op1 (load1 T hS kr kr kr h121 rfl kr ?_)
     intro v122 a hv hS
     cases hv
     refine eM T hS ⟨[(1, Sl a2 l_ c2), (2, Sl a3 order c3), (3, Pt 4 0), (8, Sl a114 out_113 c115), (9, I state_117), (12, I i_118), (13, Pt 14 0)], [(4, (24, [I o_.States, I o_.Kinds, I o_.Init, Sl a1 o_.Rows c1])), (14, (51, [I (gi order i_118), I 0]))]⟩ fun ρ a w178 χ179 hS hE hr => ?_
     replace hO := hO.mv hE rfl rfl
     replace h111 := h111.mv hE rfl
     replace h112 := h112.mv hE rfl
     replace h116 := h116.mv hE rfl rfl
     replace h119 := h119.mv hE rfl
     clear hE hr
     refine wcut (fun a w => ∃ (ρ : Nat → Nat) (χ : Nat → Nat) (out_125 : List Api_Pick) (x_130 : Int) (a126 : Option Addr) (c127 : Nat), VC26_J2 o_ l_ order Q I1 μ1 out_113 state_117 i_118 out_125 x_130 ∧ St Try.f26.ntmps ⟨[(1, Sl a2 l_ c2), (2, Sl a3 order c3), (3, Pt 4 0), (8, Sl a126 out_125 c127), (12, I i_118), (13, Pt 14 0)], [(4, (24, [I o_.States, I o_.Kinds, I o_.Init, Sl a1 o_.Rows c1])), (14, (51, [I (gi order i_118), I x_130]))]⟩ ρ a w χ ∧ Old w0 χ0 w χ ∧ RS tApi_Oper w χ a2 l_ c2 ∧ RS tI w χ a3 order c3 ∧ OS tApi_Pick 51 w χ 1007 a126 out_125 c127 ∧ RS tApi_Row w χ a1 o_.Rows c1) ?_ ?_
     ·refine wcut (fun a w => ∃ (ρ : Nat → Nat) (χ : Nat → Nat) (out_146 : List Api_Pick) (x_150 : Bool) (a147 : Option Addr) (c148 : Nat), VC26_J3 o_ l_ order Q I1 μ1 out_113 state_117 i_118 out_146 x_150 ∧ St Try.f26.ntmps ⟨[(1, Sl a2 l_ c2), (2, Sl a3 order c3), (3, Pt 4 0), (8, Sl a147 out_146 c148), (9, I state_117), (12, I i_118), (13, Pt 14 0), (51, B x_150)], [(4, (24, [I o_.States, I o_.Kinds, I o_.Init, Sl a1 o_.Rows c1])), (14, (51, [I (gi order i_118), I 0]))]⟩ ρ a w χ ∧ Old w0 χ0 w χ ∧ RS tApi_Oper w χ a2 l_ c2 ∧ RS tI w χ a3 order c3 ∧ OS tApi_Pick 51 w χ 1007 a147 out_146 c148 ∧ RS tApi_Row w χ a1 o_.Rows c1) ?_ ?_
      ·refine region ?_
       refine oP T hS 2 ⟨[(1, Sl a2 l_ c2), (2, Sl a3 order c3), (3, Pt 4 0), (8, Sl a114 out_113 c115), (9, I state_117), (12, I i_118), (13, Pt 14 0), (38, Sl a3 order c3), (39, I i_118)], [(4, (24, [I o_.States, I o_.Kinds, I o_.Init, Sl a1 o_.Rows c1])), (14, (51, [I (gi order i_118), I 0]))]⟩ fun a hS => ?_
       obtain ⟨hq, hm⟩ := hm
       refine op1 (index (e := 3) (k := .i64) T hS kr kr kr kr h112 kr kr hq.1 hq.2 ?_)
       intro A168 a h169 hS
       clear hq
       refine op1 (load1 T hS kr kr kr h169 rfl kr ?_)
       intro v170 a hv hS
       cases hv
       refine oP T hS 2 ⟨[(1, Sl a2 l_ c2), (2, Sl a3 order c3), (3, Pt 4 0), (8, Sl a114 out_113 c115), (9, I state_117), (12, I i_118), (13, Pt 14 0), (43, B (decide ((gi order i_118) ≥ 0)))], [(4, (24, [I o_.States, I o_.Kinds, I o_.Init, Sl a1 o_.Rows c1])), (14, (51, [I (gi order i_118), I 0]))]⟩ fun a hS => ?_
       rcases Bool.eq_false_or_eq_true (decide ((gi order i_118) ≥ 0)) with hb | hb
       ·replace hS := hS.lit (t := 43) kr hb
        replace hm := hm.1 hb
        refine oP T hS 2 ⟨[(1, Sl a2 l_ c2), (2, Sl a3 order c3), (3, Pt 4 0), (8, Sl a114 out_113 c115), (9, I state_117), (12, I i_118), (13, Pt 14 0), (43, B true), (44, Sl a3 order c3), (45, I i_118)], [(4, (24, [I o_.States, I o_.Kinds, I o_.Init, Sl a1 o_.Rows c1])), (14, (51, [I (gi order i_118), I 0]))]⟩ fun a hS => ?_
        obtain ⟨hq, hm⟩ := hm
        refine op1 (index (e := 3) (k := .i64) T hS kr kr kr kr h112 kr kr hq.1 hq.2 ?_)
        intro A171 a h172 hS
        clear hq
        refine op1 (load1 T hS kr kr kr h172 rfl kr ?_)
        intro v173 a hv hS
        cases hv
        refine eP T hS ⟨[(1, Sl a2 l_ c2), (2, Sl a3 order c3), (3, Pt 4 0), (8, Sl a114 out_113 c115), (9, I state_117), (12, I i_118), (13, Pt 14 0), (44, Sl a3 order c3), (45, I i_118), (46, V (.pointer (some A171))), (47, I (gi order i_118)), (48, Sl a2 l_ c2), (49, I ((l_.length : Nat) : Int)), (50, B (decide ((gi order i_118) < ((l_.length : Nat) : Int)))), (51, B (decide ((gi order i_118) < ((l_.length : Nat) : Int))))], [(4, (24, [I o_.States, I o_.Kinds, I o_.Init, Sl a1 o_.Rows c1])), (14, (51, [I (gi order i_118), I 0]))]⟩ fun a hS => ?_
        exact ⟨ρ, _, out_113, decide ((gi order i_118) < ((l_.length : Nat) : Int)), a114, c115, hm, hS.sl _, hO, h111, h112, h116, h119⟩
       ·replace hS := hS.lit (t := 43) kr hb
        replace hm := hm.2 hb
        refine eP T hS ⟨[(1, Sl a2 l_ c2), (2, Sl a3 order c3), (3, Pt 4 0), (8, Sl a114 out_113 c115), (9, I state_117), (12, I i_118), (13, Pt 14 0), (51, B false)], [(4, (24, [I o_.States, I o_.Kinds, I o_.Init, Sl a1 o_.Rows c1])), (14, (51, [I (gi order i_118), I 0]))]⟩ fun a hS => ?_
        exact ⟨ρ, _, out_113, false, a114, c115, hm, hS.sl _, hO, h111, h112, h116, h119⟩
      ·rintro a w175 ⟨ρ, χ174, out_146, x_150, a147, c148, hm, hS, hO, h144, h145, h149, h151⟩
       unfold VC26_J3 at hm
       refine wcond hS (b := x_150) kr (fun hb => ?_) (fun hb => ?_)
       ·replace hm := hm.1 hb
        refine drawnX [4] mixed hS ?_
        intro w152 χ153 hS hE hD hH
        replace hO := hO.mv hE rfl rfl
        replace h144 := h144.mv hE rfl
        replace h145 := h145.mv hE rfl
        replace h149 := h149.mv hE rfl rfl
        replace h151 := h151.mv hE rfl
        clear hE
        refine tk T [0, 1, 2, 3, 4] [4] hS hH #[true, true, true, true, true, false, false, false, false, false, false, false, false, false, false, false, false] 12 ⟨[(1, Sl a2 l_ c2), (2, Sl a3 order c3), (3, Pt 4 0), (8, Sl a147 out_146 c148), (12, I i_118), (13, Pt 14 0), (53, V (.agg #[.int .i64 o_.States, .int .i64 o_.Kinds, .int .i64 o_.Init, .slice a1 o_.Rows.length c1])), (54, I state_117), (55, Sl a2 l_ c2), (56, Sl a3 order c3), (57, I i_118)], [(4, (24, [I o_.States, I o_.Kinds, I o_.Init, Sl a1 o_.Rows c1])), (14, (51, [I (gi order i_118), I 0]))]⟩ fun a hS => ?_
        obtain ⟨hq, hm⟩ := hm
        refine dindex (e := 3) (k := .i64) T 5 hS kr kr kr (by rfl) kr hH kr kr h145 kr kr hq.1 hq.2 ?_
        intro A154 a h155 hS
        clear hq
        have h155b := h155.here
        refine dload1 T 6 hS kr kr kr (by rfl) kr hH kr h155 h155b rfl kr ?_
        intro v156 a hv hS
        cases hv
        obtain ⟨hq, hm⟩ := hm
        refine dindex (e := 45) (k := .i64) T 7 hS kr kr kr (by rfl) kr hH kr kr h144 kr kr hq.1 hq.2 ?_
        intro A157 a h158 hS
        clear hq
        have h158b := h158.here
        refine dfieldA (off := 1) (fsz := 1) (ft := 3) (TF := tI) (y := (gi l_ (gi order i_118)).Kind) 8 T hS kr kr kr (by rfl) kr hH kr h158 kr kr kr (fun cs h => Api_Oper_f1 h) ?_
        intro A159 a h160 hbl hS
        have h160b := h158b
        rw [← hbl] at h160b
        clear hbl
        refine dload1 T 9 hS kr kr kr (by rfl) kr hH kr h160 h160b rfl kr ?_
        intro v161 a hv hS
        cases hv
        refine only 10 kr (by rfl) (call hS kr kr hb41 kr (fun _ _ => rfl) (k41 _ _ o_ state_117 ((gi l_ (gi order i_118)).Kind) a1 c1 h151) ?_)
        intro v162 a w163 χ164 hE hp hS
        replace hO := hO.mv hE rfl rfl
        replace hD := hD.ev hE rfl
        replace h144 := h144.mv hE rfl
        replace h145 := h145.mv hE rfl
        replace h149 := h149.mv hE rfl rfl
        replace h151 := h151.mv hE rfl
        replace h155 := h155.mv hE rfl
        replace h158 := h158.mv hE rfl
        replace h160 := h160.mv hE rfl
        clear hE
        obtain ⟨r165, hr⟩ : ∃ r, ref23_Move o_ state_117 ((gi l_ (gi order i_118)).Kind) = r := ⟨_, rfl⟩
        replace hm := hm r165 hr
        rw [hr] at hp
        clear hr
        subst hp
        replace hS := hS.sl ⟨[(1, Sl a2 l_ c2), (2, Sl a3 order c3), (3, Pt 4 0), (8, Sl a147 out_146 c148), (12, I i_118), (13, Pt 14 0), (53, V (.agg #[.int .i64 o_.States, .int .i64 o_.Kinds, .int .i64 o_.Init, .slice a1 o_.Rows.length c1])), (54, I state_117), (55, Sl a2 l_ c2), (56, Sl a3 order c3), (57, I i_118), (58, V (.pointer (some A154))), (59, I (gi order i_118)), (60, V (.pointer (some A157))), (61, V (.pointer (some A159))), (62, I ((gi l_ (gi order i_118)).Kind)), (63, V (.tuple #[.int .i64 r165.1, .int .i64 r165.2.1, .bool r165.2.2]))], [(4, (24, [I o_.States, I o_.Kinds, I o_.Init, Sl a1 o_.Rows c1])), (14, (51, [I (gi order i_118), I 0]))]⟩
        refine andH (Hold.of hS (bks := [4]) kr hD) ?_
        intro hH
        refine tk T [11, 12, 13, 14, 15] [4] hS hH #[true, true, true, true, true, true, true, true, true, true, true, true, true, true, true, true, false] 1 ⟨[(1, Sl a2 l_ c2), (2, Sl a3 order c3), (3, Pt 4 0), (8, Sl a147 out_146 c148), (12, I i_118), (13, Pt 14 0), (65, I r165.2.1), (67, Pt 14 1)], [(4, (24, [I o_.States, I o_.Kinds, I o_.Init, Sl a1 o_.Rows c1])), (14, (51, [I (gi order i_118), I 0]))]⟩ fun a hS => ?_
        replace hS := hS.sl ⟨[(1, Sl a2 l_ c2), (2, Sl a3 order c3), (3, Pt 4 0), (8, Sl a147 out_146 c148), (12, I i_118), (13, Pt 14 0), (65, I r165.2.1), (67, Pt 14 1)], [(4, (24, [I o_.States, I o_.Kinds, I o_.Init, Sl a1 o_.Rows c1])), (14, (51, [I (gi order i_118), I 0]))]⟩
        refine only 16 kr (by rfl) (store1 T hS kr kr (sy' := ⟨[(1, Sl a2 l_ c2), (2, Sl a3 order c3), (3, Pt 4 0), (8, Sl a147 out_146 c148), (12, I i_118), (13, Pt 14 0), (65, I r165.2.1), (67, Pt 14 1)], [(14, (51, [I (gi order i_118), I r165.2.1])), (4, (24, [I o_.States, I o_.Kinds, I o_.Init, Sl a1 o_.Rows c1])), (14, (51, [I (gi order i_118), I 0]))]⟩) kr ?_)
        intro a w166 χ167 hS hE
        replace hO := hO.mv hE rfl rfl
        replace hD := hD.ev hE rfl
        replace h144 := h144.mv hE rfl
        replace h145 := h145.mv hE rfl
        replace h149 := h149.mv hE rfl rfl
        replace h151 := h151.mv hE rfl
        replace h155 := h155.mv hE rfl
        replace h158 := h158.mv hE rfl
        replace h160 := h160.mv hE rfl
        clear hE
        replace hS := hS.sl ⟨[(1, Sl a2 l_ c2), (2, Sl a3 order c3), (3, Pt 4 0), (8, Sl a147 out_146 c148), (12, I i_118), (13, Pt 14 0), (65, I r165.2.1), (67, Pt 14 1)], [(4, (24, [I o_.States, I o_.Kinds, I o_.Init, Sl a1 o_.Rows c1])), (14, (51, [I (gi order i_118), I r165.2.1]))]⟩
        refine andH (Hold.of hS (bks := [4]) kr hD) ?_
        intro hH
        refine drawnDone kr ?_
        clear hD hH
        replace hS := hS.sl ⟨[(1, Sl a2 l_ c2), (2, Sl a3 order c3), (3, Pt 4 0), (8, Sl a147 out_146 c148), (12, I i_118), (13, Pt 14 0)], [(4, (24, [I o_.States, I o_.Kinds, I o_.Init, Sl a1 o_.Rows c1])), (14, (51, [I (gi order i_118), I r165.2.1]))]⟩
        exact ⟨ρ, _, out_146, r165.2.1, a147, c148, hm, hS.sl _, hO, h144, h145, h149, h151⟩
       ·replace hm := hm.2 hb
        refine wskip ?_
        exact ⟨ρ, _, out_146, 0, a147, c148, hm, hS.sl _, hO, h144, h145, h149, h151⟩
     ·rintro a w177 ⟨ρ, χ176, out_125, x_130, a126, c127, hm, hS, hO, h123, h124, h128, h129⟩
      unfold VC26_J2 at hm
      refine regO ?_
      refine oP T hS 2 ⟨[(1, Sl a2 l_ c2), (2, Sl a3 order c3), (3, Pt 4 0), (8, Sl a126 out_125 c127), (12, I i_118), (68, Sl a126 out_125 c127), (69, V (.agg #[.int .i64 (gi order i_118), .int .i64 x_130]))], [(4, (24, [I o_.States, I o_.Kinds, I o_.Init, Sl a1 o_.Rows c1]))]⟩ fun a hS => ?_
      refine op1 (lit (E := 51) (col := 0) (T := tApi_Pick) (vals := [.agg #[.int .i64 (gi order i_118), .int .i64 x_130]]) (ys := [(⟨gi order i_118, x_130⟩ : Api_Pick)]) T hS kr kr kr kr (by exact ⟨rfl, trivial⟩) rfl kr kr kr kr ?_)
      intro b131 a w132 χ133 hE h134 hN hS
      clear hN
      replace hO := hO.mv hE rfl rfl
      replace h123 := h123.mv hE rfl
      replace h124 := h124.mv hE rfl
      replace h128 := h128.mv hE rfl rfl
      replace h129 := h129.mv hE rfl
      clear hE
      replace h134 := h134.rs0
      obtain ⟨hq, hm⟩ := hm
      obtain ⟨news, hN⟩ := h134.src
      refine op1 (append (E := 51) (T := tApi_Pick) (col := 1007) (xs := out_125) T hS kr kr kr kr h128 hN kr kr kr kr hq ?_)
      intro a138 c139 a w135 χ136 hE h137 hS
      clear hq hN
      clear h128
      replace hO := hO.mv hE rfl rfl
      replace h123 := h123.mv hE rfl
      replace h124 := h124.mv hE rfl
      replace h129 := h129.mv hE rfl
      replace h134 := h134.mv hE rfl
      clear hE
      refine eP T hS ⟨[(1, Sl a2 l_ c2), (2, Sl a3 order c3), (3, Pt 4 0), (8, Sl a138 (out_125 ++ [(⟨gi order i_118, x_130⟩ : Api_Pick)]) c139), (12, I i_118)], [(4, (24, [I o_.States, I o_.Kinds, I o_.Init, Sl a1 o_.Rows c1]))]⟩ fun a hS => ?_
      refine regO ?_
      refine oP T hS 5 ⟨[(1, Sl a2 l_ c2), (2, Sl a3 order c3), (3, Pt 4 0), (8, Sl a138 (out_125 ++ [(⟨gi order i_118, x_130⟩ : Api_Pick)]) c139), (12, I i_118), (73, V (.agg #[.int .i64 o_.States, .int .i64 o_.Kinds, .int .i64 o_.Init, .slice a1 o_.Rows.length c1])), (74, Sl a2 l_ c2), (76, I o_.Init), (77, Sl a138 (out_125 ++ [(⟨gi order i_118, x_130⟩ : Api_Pick)]) c139)], [(4, (24, [I o_.States, I o_.Kinds, I o_.Init, Sl a1 o_.Rows c1]))]⟩ fun a hS => ?_
      refine op1 (call hS kr kr hb40 kr (fun _ _ => rfl) (Ret.unlend (k40 _ (lend 1007 _) o_ l_ o_.Init (out_125 ++ [(⟨gi order i_118, x_130⟩ : Api_Pick)]) a1 c1 a2 c2 a138 c139 (h129.m0 (M0.lend 1007)) (h123.m0 (M0.lend 1007)) h137.lend)) ?_)
      intro v140 a w141 χ142 hE hp hS
      replace hO := hO.mv hE rfl rfl
      replace h123 := h123.mv hE rfl
      replace h124 := h124.mv hE rfl
      replace h129 := h129.mv hE rfl
      replace h137 := h137.mv hE rfl rfl
      clear hE
      obtain ⟨_, hp⟩ := hp
      obtain ⟨r143, hr⟩ : ∃ r, ref28_From o_ l_ o_.Init (out_125 ++ [(⟨gi order i_118, x_130⟩ : Api_Pick)]) = r := ⟨_, rfl⟩
      replace hm := hm r143 hr
      rw [hr] at hp
      clear hr
      subst hp
      refine eP T hS ⟨[(1, Sl a2 l_ c2), (2, Sl a3 order c3), (3, Pt 4 0), (8, Sl a138 (out_125 ++ [(⟨gi order i_118, x_130⟩ : Api_Pick)]) c139), (9, I r143.1), (11, I r143.2.2), (12, I i_118)], [(4, (24, [I o_.States, I o_.Kinds, I o_.Init, Sl a1 o_.Rows c1]))]⟩ fun a hS => ?_
      refine rP T hS ⟨[(1, Sl a2 l_ c2), (2, Sl a3 order c3), (3, Pt 4 0), (8, Sl a138 (out_125 ++ [(⟨gi order i_118, x_130⟩ : Api_Pick)]) c139), (9, I r143.1), (11, I r143.2.2), (12, I i_118), (83, B (r143.2.2 != 0))], [(4, (24, [I o_.States, I o_.Kinds, I o_.Init, Sl a1 o_.Rows c1]))]⟩ fun a hS => ?_
      refine wcond hS (b := (r143.2.2 != 0)) kr (fun hb => ?_) (fun hb => ?_)
      ·replace hm := hm.1 hb
       refine rP T hS ⟨[(6, V (.slice none 0 0)), (7, I r143.2.2)], []⟩ fun a hS => ?_
       refine wret ?_
       exact fin T hS hO (fun c => c) rfl (r := [.slice none 0 0, .int .i64 r143.2.2]) kr (fun χ' hM hC => ⟨([], r143.2.2), hm, none, 0, rfl, RS.empty _ _ _⟩)
      ·replace hm := hm.2 hb
       refine wskip ?_
       refine region (eP T hS ⟨[(1, Sl a2 l_ c2), (2, Sl a3 order c3), (3, Pt 4 0), (8, Sl a138 (out_125 ++ [(⟨gi order i_118, x_130⟩ : Api_Pick)]) c139), (9, I r143.1), (12, I (IntKind.i64.wrap (i_118 + 1)))], [(4, (24, [I o_.States, I o_.Kinds, I o_.Init, Sl a1 o_.Rows c1]))]⟩ fun a hS => ?_)
       exact ⟨⟨out_125 ++ [(⟨gi order i_118, x_130⟩ : Api_Pick)], r143.1, IntKind.i64.wrap (i_118 + 1)⟩, ⟨ρ, _, a138, c139, hm.1, hS.sl _, hO, h123, h124, h137, h129⟩, hm.2⟩
    ·replace hm := hm.2 hb
     refine wexit (by rfl) ?_
     exact ⟨ρ, _, out_113, a114, c115, hm, hS.sl _, hO, h116⟩
  ·rintro a w183 ⟨ρ, χ182, out_105, a106, c107, hm, hS, hO, h108⟩
   unfold VC26_J1 at hm
   refine rP T hS ⟨[(6, Sl a106 out_105 c107), (7, I 0)], []⟩ fun a hS => ?_
   refine wret ?_
   obtain ⟨χ109, hE, hF⟩ := h108.freeze (by decide)
   replace hS := hS.ev hE (xone_box kr)
   replace hO := hO.mv hE rfl rfl
   have h110 := hF; clear hE hF
   exact fin T hS hO (fun c => c) rfl (r := [.slice a106 out_105.length c107, .int .i64 0]) kr (fun χ' hM hC => ⟨(out_105, 0), hm, a106, c107, rfl, h110.m0 hM⟩)
theorem C26 (k40 : S40) (k41 : S41) (v : ∀ (o_ : Api_Object) (l_ : List Api_Oper) (order : List Int), preR2 o_ l_ order → VC26 o_ l_ order (fun r => r = ref28_Fill o_ l_ order)) : S26 := by
 intro w χ o_ l_ order a1 c1 a2 c2 a3 c3   hp h1 h2 h3
 refine (W26 k40 k41 w χ o_ l_ order a1 c1 a2 c2 a3 c3   _ (v o_ l_ order hp) h1 h2 h3).mono ?_
 rintro _ _ _ _ ⟨r, rfl, h⟩
 exact h
/-- replevin/replevinref27.meets -/
theorem W38 (w0 : World) (χ0 : Nat → Nat) (a_ : Api_Oper) (b_ : Api_Oper) (Q : Bool → Prop) (hm : VC38 a_ b_ Q) :
  Ret Try.prog 38 #[.agg #[.int .i64 a_.Prc, .int .i64 a_.Kind, .int .i64 a_.Start, .int .i64 a_.End, .int .i64 a_.Result], .agg #[.int .i64 b_.Prc, .int .i64 b_.Kind, .int .i64 b_.Start, .int .i64 b_.End, .int .i64 b_.Result]] xnone w0 χ0 (fun w χ' v => ∃ r, Q r ∧ v = .bool r) := by
 unfold VC38 at hm
 refine enter Try.func38 rfl (vals := [.agg #[.int .i64 a_.Prc, .int .i64 a_.Kind, .int .i64 a_.Start, .int .i64 a_.End, .int .i64 a_.Result], .agg #[.int .i64 b_.Prc, .int .i64 b_.Kind, .int .i64 b_.Start, .int .i64 b_.End, .int .i64 b_.Result]]) kr ?_
 intro ρ a hS hO hM
 clear hM
 refine rM T hS ⟨[(2, Pt 3 0), (3, Pt 4 0)], [(3, (45, [I a_.Prc, I a_.Kind, I a_.Start, I a_.End, I a_.Result])), (4, (45, [I b_.Prc, I b_.Kind, I b_.Start, I b_.End, I b_.Result]))]⟩ fun ρ a w101 χ102 hS hE hr => ?_
 replace hO := hO.mv hE rfl rfl
 clear hE hr
 refine rP T hS ⟨[(4, B ((((a_.Start == b_.Start) || (a_.End == b_.Start)) || (a_.Start == b_.End)) || ((a_.End == b_.End) && (a_.End != (-1)))))], []⟩ (sp := [10, 17, 24, 30]) fun a hS => ?_
 refine wret ?_
 exact fin T hS hO (fun c => c) rfl (r := [.bool ((((a_.Start == b_.Start) || (a_.End == b_.Start)) || (a_.Start == b_.End)) || ((a_.End == b_.End) && (a_.End != (-1))))]) kr (fun χ' hM hC => ⟨((((a_.Start == b_.Start) || (a_.End == b_.Start)) || (a_.Start == b_.End)) || ((a_.End == b_.End) && (a_.End != (-1)))), hm, rfl⟩)
theorem C38 (v : ∀ (a_ : Api_Oper) (b_ : Api_Oper), VC38 a_ b_ (fun r => r = ref27_meets a_ b_)) : S38 := by
 intro w χ a_ b_    
 refine (W38 w χ a_ b_    _ (v a_ b_)).mono ?_
 rintro _ _ _ _ ⟨r, rfl, h⟩
 exact h
end Go.Proofs.Ytomodhnocjmfpaa
