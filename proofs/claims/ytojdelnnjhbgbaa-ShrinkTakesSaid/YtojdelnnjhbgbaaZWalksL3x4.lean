/- Walks: each function returns what its condition asks. Condition: the contracts of its callees, handed in. -/
import Derived.Test.YtojdelnnjhbgbaaZWalksS
set_option linter.all false
namespace Go.Proofs.Ytojdelnnjhbgbaa
open Go Go.Sv
set_option maxHeartbeats 1000000
theorem W36 (w0 : World) (χ0 : Nat → Nat) (l_ : List Api_Event) (at_ : Int) (a1 : Option Addr) (c1 : Nat) (Q : Int → Prop) (hm : VC36 l_ at_ Q) (h1 : RS tApi_Event w0 χ0 a1 l_ c1) :
  Ret Try.prog 36 #[.slice a1 l_.length c1, .int .i64 at_] xnone w0 χ0 (fun w χ' v => ∃ r, Q r ∧ v = .int .i64 r) := by
 unfold VC36 at hm
 replace hm := hm (h1.sm kr)
 refine enter Try.func36 rfl (vals := [.slice a1 l_.length c1, .int .i64 at_]) kr ?_
 intro ρ a hS hO hM
 replace h1 := h1.m0 hM
 clear hM
 refine rP T hS ⟨[(0, Sl a1 l_ c1), (1, I at_)], []⟩ fun a hS => ?_
 refine rP T hS ⟨[(0, Sl a1 l_ c1), (1, I at_), (5, I (-1))], []⟩ fun a hS => ?_
 refine rP T hS ⟨[(0, Sl a1 l_ c1), (1, I at_), (5, I (-1)), (6, I (-1))], []⟩ fun a hS => ?_
 refine wcut (fun a w => ∃ (ρ : Nat → Nat) (χ : Nat → Nat) (begun_102 : Int), VC36_J1 l_ at_ Q begun_102 ∧ St Try.f36.ntmps ⟨[(0, Sl a1 l_ c1), (1, I at_), (6, I begun_102)], []⟩ ρ a w χ ∧ Old w0 χ0 w χ ∧ RS tApi_Event w χ a1 l_ c1) ?_ ?_
 ·refine rP T hS ⟨[(0, Sl a1 l_ c1), (1, I at_), (5, I (-1)), (6, I (-1)), (7, I 0)], []⟩ fun a hS => ?_
  refine wblock ?_
  obtain ⟨I1, μ1, hm0, hm⟩ := hm
  refine wloop (σ := Int × Int × Int) (fun s a w => ∃ (ρ : Nat → Nat) (χ : Nat → Nat), I1 s.1 s.2.1 s.2.2 ∧ St Try.f36.ntmps ⟨[(0, Sl a1 l_ c1), (1, I at_), (5, I s.1), (6, I s.2.1), (7, I s.2.2)], []⟩ ρ a w χ ∧ Old w0 χ0 w χ ∧ RS tApi_Event w χ a1 l_ c1) (fun s => μ1 s.1 s.2.1 s.2.2) (⟨(-1), (-1), 0⟩) ?_ ?_
  ·exact ⟨ρ, _, hm0, hS.sl _, hO, h1⟩
  rintro ⟨n_117, begun_118, i_119⟩ a w152 ⟨ρ, χ151, hI, hS, hO, h116⟩
  replace hm := hm n_117 begun_118 i_119 hI
  clear hI hm0
  refine wseq (rP T hS ⟨[(0, Sl a1 l_ c1), (1, I at_), (5, I n_117), (6, I begun_118), (7, I i_119), (10, B (decide (i_119 ≤ at_)))], []⟩ fun a hS => ?_)
  refine wcond hS (b := decide (i_119 ≤ at_)) kr (fun hb => ?_) (fun hb => ?_)
  ·replace hm := hm.1 hb
   refine wskip ?_
   refine wcut (fun a w => ∃ (ρ : Nat → Nat) (χ : Nat → Nat) (n_121 : Int) (begun_122 : Int), VC36_J3 I1 μ1 n_117 begun_118 i_119 n_121 begun_122 ∧ St Try.f36.ntmps ⟨[(0, Sl a1 l_ c1), (1, I at_), (5, I n_121), (6, I begun_122), (7, I i_119)], []⟩ ρ a w χ ∧ Old w0 χ0 w χ ∧ RS tApi_Event w χ a1 l_ c1) ?_ ?_
   ·refine wblock ?_
    refine wcut (fun a w => ∃ (ρ : Nat → Nat) (χ : Nat → Nat) (n_124 : Int), VC36_J4 l_ at_ I1 μ1 n_117 begun_118 i_119 n_124 ∧ St Try.f36.ntmps ⟨[(0, Sl a1 l_ c1), (1, I at_), (5, I n_124), (6, I begun_118), (7, I i_119)], []⟩ ρ a w χ ∧ Old w0 χ0 w χ ∧ RS tApi_Event w χ a1 l_ c1) ?_ ?_
    ·refine regO ?_
     refine oP T hS 2 ⟨[(0, Sl a1 l_ c1), (1, I at_), (5, I n_117), (6, I begun_118), (7, I i_119), (13, Sl a1 l_ c1), (14, I i_119)], []⟩ fun a hS => ?_
     obtain ⟨hq, hm⟩ := hm
     refine op1 (index (e := 54) (k := .i64) T hS kr kr kr kr h116 kr kr hq.1 hq.2 ?_)
     intro A142 a h143 hS
     refine op1 (fieldA (off := 0) (fsz := 1) (ft := 3) (TF := tI) (y := (gi l_ i_119).What) T hS kr kr kr h143 kr kr kr (fun cs h => Api_Event_f0 h) ?_)
     intro A144 a h145 hS
     refine op1 (load1 T hS kr kr kr h145 rfl kr ?_)
     intro v146 a hv hS
     cases hv
     refine eP T hS ⟨[(0, Sl a1 l_ c1), (1, I at_), (5, I n_117), (6, I begun_118), (7, I i_119), (18, B (((gi l_ i_119).What) == 1))], []⟩ fun a hS => ?_
     refine wcond hS (b := (((gi l_ i_119).What) == 1)) kr (fun hb => ?_) (fun hb => ?_)
     ·replace hm := hm.1 hb
      refine region (eP T hS ⟨[(0, Sl a1 l_ c1), (1, I at_), (5, I (wR (n_117 + 1))), (6, I begun_118), (7, I i_119)], []⟩ fun a hS => ?_)
      exact ⟨ρ, _, wR (n_117 + 1), hm, hS.sl _, hO, h116⟩
     replace hm := hm.2 hb
     refine wskip ?_
     exact ⟨ρ, _, n_117, hm, hS.sl _, hO, h116⟩
    rintro a w148 ⟨ρ, χ147, n_124, hm, hS, hO, h123⟩
    unfold VC36_J4 at hm
    refine drawnSX [] mixed hS ?_
    intro w125 χ126 hS hE hD hH
    replace hO := hO.mv hE rfl rfl
    replace h123 := h123.mv hE rfl
    refine tk T [0, 1, 5, 6] [] hS hH #[true, true, false, false, false, true, true, false, false, false, false] 7 ⟨[(0, Sl a1 l_ c1), (1, I at_), (5, I n_124), (6, I begun_118), (7, I i_119), (21, Sl a1 l_ c1), (22, I i_119), (26, Sl a1 l_ c1), (27, I at_)], []⟩ fun a hS => ?_
    obtain ⟨hq, hm⟩ := hm
    refine dindex (e := 54) (k := .i64) T 2 hS kr kr kr (by rfl) kr hH kr kr h123 kr kr hq.1 hq.2 ?_
    intro A127 a h128 hS
    have h128b := h128.here
    refine dfieldA (off := 1) (fsz := 1) (ft := 3) (TF := tI) (y := (gi l_ i_119).Prc) 3 T hS kr kr kr (by rfl) kr hH kr h128 kr kr kr (fun cs h => Api_Event_f1 h) ?_
    intro A129 a h130 hbl hS
    have h130b := h128b
    rw [← hbl] at h130b
    clear hbl
    refine dload1 T 4 hS kr kr kr (by rfl) kr hH kr h130 h130b rfl kr ?_
    intro v131 a hv hS
    cases hv
    obtain ⟨hq, hm⟩ := hm
    refine dindex (e := 54) (k := .i64) T 7 hS kr kr kr (by rfl) kr hH kr kr h123 kr kr hq.1 hq.2 ?_
    intro A132 a h133 hS
    have h133b := h133.here
    refine dfieldA (off := 1) (fsz := 1) (ft := 3) (TF := tI) (y := (gi l_ at_).Prc) 8 T hS kr kr kr (by rfl) kr hH kr h133 kr kr kr (fun cs h => Api_Event_f1 h) ?_
    intro A134 a h135 hbl hS
    have h135b := h133b
    rw [← hbl] at h135b
    clear hbl
    refine dload1 T 9 hS kr kr kr (by rfl) kr hH kr h135 h135b rfl kr ?_
    intro v136 a hv hS
    cases hv
    refine tk T [10] [] hS hH #[true, true, true, true, true, true, true, true, true, true, true] 0 ⟨[(0, Sl a1 l_ c1), (1, I at_), (5, I n_124), (6, I begun_118), (7, I i_119), (31, B (((gi l_ i_119).Prc) == ((gi l_ at_).Prc)))], []⟩ fun a hS => ?_
    refine drawnDone kr ?_
    clear hD hH
    replace hS := hS.sl ⟨[(0, Sl a1 l_ c1), (1, I at_), (5, I n_124), (6, I begun_118), (7, I i_119), (31, B (((gi l_ i_119).Prc) == ((gi l_ at_).Prc)))], []⟩
    refine wcond hS (b := (((gi l_ i_119).Prc) == ((gi l_ at_).Prc))) kr (fun hb => ?_) (fun hb => ?_)
    ·replace hm := hm.1 hb
     refine regO ?_
     refine oP T hS 2 ⟨[(0, Sl a1 l_ c1), (1, I at_), (5, I n_124), (6, I begun_118), (7, I i_119), (32, Sl a1 l_ c1), (33, I i_119)], []⟩ fun a hS => ?_
     obtain ⟨hq, hm⟩ := hm
     refine op1 (index (e := 54) (k := .i64) T hS kr kr kr kr h123 kr kr hq.1 hq.2 ?_)
     intro A137 a h138 hS
     refine op1 (fieldA (off := 0) (fsz := 1) (ft := 3) (TF := tI) (y := (gi l_ i_119).What) T hS kr kr kr h138 kr kr kr (fun cs h => Api_Event_f0 h) ?_)
     intro A139 a h140 hS
     refine op1 (load1 T hS kr kr kr h140 rfl kr ?_)
     intro v141 a hv hS
     cases hv
     refine eP T hS ⟨[(0, Sl a1 l_ c1), (1, I at_), (5, I n_124), (6, I begun_118), (7, I i_119), (37, B (((gi l_ i_119).What) == 1))], []⟩ fun a hS => ?_
     refine wcond hS (b := (((gi l_ i_119).What) == 1)) kr (fun hb => ?_) (fun hb => ?_)
     ·replace hm := hm.1 hb
      refine region (eP T hS ⟨[(0, Sl a1 l_ c1), (1, I at_), (5, I n_124), (6, I n_124), (7, I i_119)], []⟩ fun a hS => ?_)
      exact ⟨ρ, _, n_124, n_124, hm, hS.sl _, hO, h123⟩
     replace hm := hm.2 hb
     refine rP T hS ⟨[(0, Sl a1 l_ c1), (1, I at_), (5, I n_124), (6, I begun_118), (7, I i_119), (41, B (decide (i_119 < at_)))], []⟩ fun a hS => ?_
     refine wcond hS (b := decide (i_119 < at_)) kr (fun hb => ?_) (fun hb => ?_)
     ·replace hm := hm.1 hb
      refine region (eP T hS ⟨[(0, Sl a1 l_ c1), (1, I at_), (5, I n_124), (6, I (-1)), (7, I i_119)], []⟩ fun a hS => ?_)
      exact ⟨ρ, _, n_124, (-1), hm, hS.sl _, hO, h123⟩
     replace hm := hm.2 hb
     refine wskip ?_
     exact ⟨ρ, _, n_124, begun_118, hm, hS.sl _, hO, h123⟩
    replace hm := hm.2 hb
    refine wskip ?_
    exact ⟨ρ, _, n_124, begun_118, hm, hS.sl _, hO, h123⟩
   rintro a w150 ⟨ρ, χ149, n_121, begun_122, hm, hS, hO, h120⟩
   unfold VC36_J3 at hm
   refine region (eP T hS ⟨[(0, Sl a1 l_ c1), (1, I at_), (5, I n_121), (6, I begun_122), (7, I (wR (i_119 + 1)))], []⟩ fun a hS => ?_)
   exact ⟨⟨n_121, begun_122, wR (i_119 + 1)⟩, ⟨ρ, _, hm.1, hS.sl _, hO, h120⟩, hm.2⟩
  replace hm := hm.2 hb
  refine wexit (by rfl) ?_
  exact ⟨ρ, _, begun_118, hm, hS.sl _, hO, h116⟩
 rintro a w154 ⟨ρ, χ153, begun_102, hm, hS, hO, h101⟩
 unfold VC36_J1 at hm
 refine wseq ?_
 refine wcut (fun a w => ∃ (ρ : Nat → Nat) (χ : Nat → Nat) (x_103 : Bool), VC36_J2 Q begun_102 x_103 ∧ St Try.f36.ntmps ⟨[(6, I begun_102), (55, B x_103)], []⟩ ρ a w χ ∧ Old w0 χ0 w χ) ?_ ?_
 ·refine region ?_
  refine oP T hS 2 ⟨[(0, Sl a1 l_ c1), (1, I at_), (6, I begun_102), (42, Sl a1 l_ c1), (43, I at_)], []⟩ fun a hS => ?_
  obtain ⟨hq, hm⟩ := hm
  refine op1 (index (e := 54) (k := .i64) T hS kr kr kr kr h101 kr kr hq.1 hq.2 ?_)
  intro A104 a h105 hS
  refine op1 (fieldA (off := 0) (fsz := 1) (ft := 3) (TF := tI) (y := (gi l_ at_).What) T hS kr kr kr h105 kr kr kr (fun cs h => Api_Event_f0 h) ?_)
  intro A106 a h107 hS
  refine op1 (load1 T hS kr kr kr h107 rfl kr ?_)
  intro v108 a hv hS
  cases hv
  refine oP T hS 2 ⟨[(0, Sl a1 l_ c1), (1, I at_), (6, I begun_102), (48, B (((gi l_ at_).What) != 1))], []⟩ fun a hS => ?_
  rcases Bool.eq_false_or_eq_true (((gi l_ at_).What) != 1) with hb | hb
  ·replace hS := hS.lit (t := 48) kr hb
   replace hm := hm.1 hb
   refine oP T hS 2 ⟨[(6, I begun_102), (48, B true), (49, Sl a1 l_ c1), (50, I at_)], []⟩ fun a hS => ?_
   obtain ⟨hq, hm⟩ := hm
   refine op1 (index (e := 54) (k := .i64) T hS kr kr kr kr h101 kr kr hq.1 hq.2 ?_)
   intro A109 a h110 hS
   refine op1 (fieldA (off := 0) (fsz := 1) (ft := 3) (TF := tI) (y := (gi l_ at_).What) T hS kr kr kr h110 kr kr kr (fun cs h => Api_Event_f0 h) ?_)
   intro A111 a h112 hS
   refine op1 (load1 T hS kr kr kr h112 rfl kr ?_)
   intro v113 a hv hS
   cases hv
   refine eP T hS ⟨[(6, I begun_102), (55, B (((gi l_ at_).What) != 2))], []⟩ fun a hS => ?_
   exact ⟨ρ, _, (((gi l_ at_).What) != 2), hm, hS.sl _, hO⟩
  replace hS := hS.lit (t := 48) kr hb
  replace hm := hm.2 hb
  refine eP T hS ⟨[(6, I begun_102), (55, B false)], []⟩ fun a hS => ?_
  exact ⟨ρ, _, false, hm, hS.sl _, hO⟩
 rintro a w115 ⟨ρ, χ114, x_103, hm, hS, hO⟩
 unfold VC36_J2 at hm
 refine wcond hS (b := x_103) kr (fun hb => ?_) (fun hb => ?_)
 ·replace hm := hm.1 hb
  refine rP T hS ⟨[(4, I (-1))], []⟩ fun a hS => ?_
  refine wret ?_
  exact fin T hS hO (fun c => c) rfl (r := [.int .i64 (-1)]) kr (fun χ' hM hC => ⟨(-1), hm, rfl⟩)
 replace hm := hm.2 hb
 refine wskip ?_
 refine rP T hS ⟨[(4, I begun_102)], []⟩ fun a hS => ?_
 refine wret ?_
 exact fin T hS hO (fun c => c) rfl (r := [.int .i64 begun_102]) kr (fun χ' hM hC => ⟨begun_102, hm, rfl⟩)
theorem C36 (v : ∀ (l_ : List Api_Event) (at_ : Int), preOw l_ at_ → VC36 l_ at_ (fun r => r = ref41_Owner l_ at_)) : S36 := by
 intro w χ l_ at_ a1 c1   hp h1
 refine (W36 w χ l_ at_ a1 c1   _ (v l_ at_ hp) h1).mono ?_
 rintro _ _ _ _ ⟨r, rfl, h⟩
 exact h
theorem W19 (k36 : S36) (w0 : World) (χ0 : Nat → Nat) (l_ : List Api_Event) (ops : List Int) (a1 : Option Addr) (c1 : Nat) (a2 : Option Addr) (c2 : Nat) (Q : (List Api_Event) → Prop) (hm : VC19 l_ ops Q) (h1 : RS tApi_Event w0 χ0 a1 l_ c1) (h2 : RS tI w0 χ0 a2 ops c2) :
  Ret Try.prog 19 #[.slice a1 l_.length c1, .slice a2 ops.length c2] xnone w0 χ0 (fun w χ' v => ∃ r, Q r ∧ ∃ (ra1 : Option Addr) (rc1 : Nat), v = .slice ra1 r.length rc1 ∧ RS tApi_Event w χ' ra1 r rc1) := by
 unfold VC19 at hm
 replace hm := hm (h1.sm kr)
 replace hm := hm (h2.sm kr)
 refine enter Try.func19 rfl (vals := [.slice a1 l_.length c1, .slice a2 ops.length c2]) kr ?_
 intro ρ a hS hO hM
 replace h1 := h1.m0 hM
 replace h2 := h2.m0 hM
 clear hM
 refine rP T hS ⟨[(0, Sl a1 l_ c1), (1, Sl a2 ops c2)], []⟩ fun a hS => ?_
 refine rP T hS ⟨[(0, Sl a1 l_ c1), (1, Sl a2 ops c2), (5, V (.slice none 0 0))], []⟩ fun a hS => ?_
 refine wcut (fun a w => ∃ (ρ : Nat → Nat) (χ : Nat → Nat) (out_101 : List Api_Event) (a102 : Option Addr) (c103 : Nat), VC19_J1 Q out_101 ∧ St Try.f19.ntmps ⟨[(5, Sl a102 out_101 c103)], []⟩ ρ a w χ ∧ Old w0 χ0 w χ ∧ OS tApi_Event 54 w χ 1005 a102 out_101 c103) ?_ ?_
 ·refine rP T hS ⟨[(0, Sl a1 l_ c1), (1, Sl a2 ops c2), (5, V (.slice none 0 0)), (6, I 0)], []⟩ fun a hS => ?_
  refine wblock ?_
  obtain ⟨I1, μ1, hm0, hm⟩ := hm
  refine wloop (σ := (List Api_Event) × Int) (fun s a w => ∃ (ρ : Nat → Nat) (χ : Nat → Nat) (a110 : Option Addr) (c111 : Nat), I1 s.1 s.2 ∧ St Try.f19.ntmps ⟨[(0, Sl a1 l_ c1), (1, Sl a2 ops c2), (5, Sl a110 s.1 c111), (6, I s.2)], []⟩ ρ a w χ ∧ Old w0 χ0 w χ ∧ RS tApi_Event w χ a1 l_ c1 ∧ RS tI w χ a2 ops c2 ∧ OS tApi_Event 54 w χ 1005 a110 s.1 c111) (fun s => μ1 s.1 s.2) (⟨[], 0⟩) ?_ ?_
  ·exact ⟨ρ, _, none, 0, hm0, hS.sl _, hO, h1, h2, (OS.nil _ _ _ _ _)⟩
  rintro ⟨out_109, i_113⟩ a w170 ⟨ρ, χ169, a110, c111, hI, hS, hO, h107, h108, h112⟩
  replace hm := hm out_109 i_113 hI
  clear hI hm0
  refine wseq (rP T hS ⟨[(0, Sl a1 l_ c1), (1, Sl a2 ops c2), (5, Sl a110 out_109 c111), (6, I i_113), (13, B (decide (i_113 < (lN l_))))], []⟩ fun a hS => ?_)
  refine wcond hS (b := decide (i_113 < (lN l_))) kr (fun hb => ?_) (fun hb => ?_)
  ·replace hm := hm.1 hb
   refine wskip ?_
   refine wcut (fun a w => ∃ (ρ : Nat → Nat) (χ : Nat → Nat) (out_116 : List Api_Event) (a117 : Option Addr) (c118 : Nat), VC19_J2 I1 μ1 out_109 i_113 out_116 ∧ St Try.f19.ntmps ⟨[(0, Sl a1 l_ c1), (1, Sl a2 ops c2), (5, Sl a117 out_116 c118), (6, I i_113)], []⟩ ρ a w χ ∧ Old w0 χ0 w χ ∧ RS tApi_Event w χ a1 l_ c1 ∧ RS tI w χ a2 ops c2 ∧ OS tApi_Event 54 w χ 1005 a117 out_116 c118) ?_ ?_
   ·refine wblock ?_
    refine regO ?_
    refine oP T hS 2 ⟨[(0, Sl a1 l_ c1), (1, Sl a2 ops c2), (5, Sl a110 out_109 c111), (6, I i_113), (16, Sl a1 l_ c1), (17, I i_113)], []⟩ fun a hS => ?_
    obtain ⟨hq, hm⟩ := hm
    refine op1 (call hS kr kr hb36 kr (fun _ _ => rfl) (k36 _ _ l_ i_113 a1 c1 hq h107) ?_)
    intro v120 a w121 χ122 hE hp hS
    replace hO := hO.mv hE rfl rfl
    replace h107 := h107.mv hE rfl
    replace h108 := h108.mv hE rfl
    replace h112 := h112.mv hE rfl rfl
    obtain ⟨r123, hr⟩ : ∃ r, ref41_Owner l_ i_113 = r := ⟨_, rfl⟩
    replace hm := hm r123 hr
    rw [hr] at hp
    clear hr
    subst hp
    refine eP T hS ⟨[(0, Sl a1 l_ c1), (1, Sl a2 ops c2), (5, Sl a110 out_109 c111), (6, I i_113), (7, I r123)], []⟩ fun a hS => ?_
    refine rP T hS ⟨[(0, Sl a1 l_ c1), (1, Sl a2 ops c2), (5, Sl a110 out_109 c111), (6, I i_113), (7, I r123), (8, B false)], []⟩ fun a hS => ?_
    refine wcut (fun a w => ∃ (ρ : Nat → Nat) (χ : Nat → Nat) (out_126 : List Api_Event) (gone_130 : Bool) (a127 : Option Addr) (c128 : Nat), VC19_J3 l_ I1 μ1 out_109 i_113 out_126 gone_130 ∧ St Try.f19.ntmps ⟨[(0, Sl a1 l_ c1), (1, Sl a2 ops c2), (5, Sl a127 out_126 c128), (6, I i_113), (8, B gone_130)], []⟩ ρ a w χ ∧ Old w0 χ0 w χ ∧ RS tApi_Event w χ a1 l_ c1 ∧ RS tI w χ a2 ops c2 ∧ OS tApi_Event 54 w χ 1005 a127 out_126 c128) ?_ ?_
    ·refine rP T hS ⟨[(0, Sl a1 l_ c1), (1, Sl a2 ops c2), (5, Sl a110 out_109 c111), (6, I i_113), (7, I r123), (8, B false), (9, I 0)], []⟩ fun a hS => ?_
     refine wblock ?_
     obtain ⟨I2, μ2, hm0, hm⟩ := hm
     refine wloop (σ := (List Api_Event) × Bool × Int) (fun s a w => ∃ (ρ : Nat → Nat) (χ : Nat → Nat) (a146 : Option Addr) (c147 : Nat), I2 s.1 s.2.1 s.2.2 ∧ St Try.f19.ntmps ⟨[(0, Sl a1 l_ c1), (1, Sl a2 ops c2), (5, Sl a146 s.1 c147), (6, I i_113), (7, I r123), (8, B s.2.1), (9, I s.2.2)], []⟩ ρ a w χ ∧ Old w0 χ0 w χ ∧ RS tApi_Event w χ a1 l_ c1 ∧ RS tI w χ a2 ops c2 ∧ OS tApi_Event 54 w χ 1005 a146 s.1 c147) (fun s => μ2 s.1 s.2.1 s.2.2) (⟨out_109, false, 0⟩) ?_ ?_
     ·exact ⟨ρ, _, a110, c111, hm0, hS.sl _, hO, h107, h108, h112⟩
     rintro ⟨out_145, gone_149, k_150⟩ a w164 ⟨ρ, χ163, a146, c147, hI, hS, hO, h143, h144, h148⟩
     replace hm := hm out_145 gone_149 k_150 hI
     clear hI hm0
     refine wseq (rP T hS ⟨[(0, Sl a1 l_ c1), (1, Sl a2 ops c2), (5, Sl a146 out_145 c147), (6, I i_113), (7, I r123), (8, B gone_149), (9, I k_150), (22, B (decide (k_150 < (lN ops))))], []⟩ fun a hS => ?_)
     refine wcond hS (b := decide (k_150 < (lN ops))) kr (fun hb => ?_) (fun hb => ?_)
     ·replace hm := hm.1 hb
      refine wskip ?_
      refine wcut (fun a w => ∃ (ρ : Nat → Nat) (χ : Nat → Nat) (out_153 : List Api_Event) (gone_157 : Bool) (a154 : Option Addr) (c155 : Nat), VC19_J4 I2 μ2 out_145 gone_149 k_150 out_153 gone_157 ∧ St Try.f19.ntmps ⟨[(0, Sl a1 l_ c1), (1, Sl a2 ops c2), (5, Sl a154 out_153 c155), (6, I i_113), (7, I r123), (8, B gone_157), (9, I k_150)], []⟩ ρ a w χ ∧ Old w0 χ0 w χ ∧ RS tApi_Event w χ a1 l_ c1 ∧ RS tI w χ a2 ops c2 ∧ OS tApi_Event 54 w χ 1005 a154 out_153 c155) ?_ ?_
      ·refine wblock ?_
       refine region ?_
       refine oP T hS 2 ⟨[(0, Sl a1 l_ c1), (1, Sl a2 ops c2), (5, Sl a146 out_145 c147), (6, I i_113), (7, I r123), (8, B gone_149), (9, I k_150), (26, B gone_149)], []⟩ fun a hS => ?_
       rcases Bool.eq_false_or_eq_true gone_149 with hb | hb
       ·replace hS := hS.lit (t := 26) kr hb
        replace hm := hm.1 hb
        refine eP T hS ⟨[(0, Sl a1 l_ c1), (1, Sl a2 ops c2), (5, Sl a146 out_145 c147), (6, I i_113), (7, I r123), (8, B true), (9, I k_150)], []⟩ fun a hS => ?_
        exact ⟨ρ, _, out_145, true, a146, c147, hm, hS.sl _, hO, h143, h144, h148⟩
       replace hS := hS.lit (t := 26) kr hb
       replace hm := hm.2 hb
       refine oP T hS 3 ⟨[(0, Sl a1 l_ c1), (1, Sl a2 ops c2), (5, Sl a146 out_145 c147), (6, I i_113), (7, I r123), (8, B gone_149), (9, I k_150), (26, B false), (27, I r123), (28, B (decide (r123 ≥ 0))), (29, B (decide (r123 ≥ 0)))], []⟩ fun a hS => ?_
       rcases Bool.eq_false_or_eq_true (decide (r123 ≥ 0)) with hb | hb
       ·replace hS := hS.lit (t := 29) kr hb
        replace hm := hm.1 hb
        refine oP T hS 2 ⟨[(0, Sl a1 l_ c1), (1, Sl a2 ops c2), (5, Sl a146 out_145 c147), (6, I i_113), (7, I r123), (8, B gone_149), (9, I k_150), (26, B false), (27, I r123), (28, B (decide (r123 ≥ 0))), (29, B true), (30, Sl a2 ops c2), (31, I k_150)], []⟩ fun a hS => ?_
        obtain ⟨hq, hm⟩ := hm
        refine op1 (index (e := 3) (k := .i64) T hS kr kr kr kr h144 kr kr hq.1 hq.2 ?_)
        intro A158 a h159 hS
        refine op1 (load1 T hS kr kr kr h159 rfl kr ?_)
        intro v160 a hv hS
        cases hv
        refine eP T hS ⟨[(0, Sl a1 l_ c1), (1, Sl a2 ops c2), (5, Sl a146 out_145 c147), (6, I i_113), (7, I r123), (8, B ((gi ops k_150) == r123)), (9, I k_150), (27, I r123), (28, B (decide (r123 ≥ 0))), (29, B true), (30, Sl a2 ops c2), (31, I k_150), (32, V (.pointer (some A158))), (33, I (gi ops k_150)), (34, I r123), (35, B ((gi ops k_150) == r123)), (36, B ((gi ops k_150) == r123))], []⟩ fun a hS => ?_
        exact ⟨ρ, _, out_145, ((gi ops k_150) == r123), a146, c147, hm, hS.sl _, hO, h143, h144, h148⟩
       replace hS := hS.lit (t := 29) kr hb
       replace hm := hm.2 hb
       refine eP T hS ⟨[(0, Sl a1 l_ c1), (1, Sl a2 ops c2), (5, Sl a146 out_145 c147), (6, I i_113), (7, I r123), (8, B false), (9, I k_150), (27, I r123), (28, B (decide (r123 ≥ 0))), (29, B false), (36, B false)], []⟩ fun a hS => ?_
       exact ⟨ρ, _, out_145, false, a146, c147, hm, hS.sl _, hO, h143, h144, h148⟩
      rintro a w162 ⟨ρ, χ161, out_153, gone_157, a154, c155, hm, hS, hO, h151, h152, h156⟩
      unfold VC19_J4 at hm
      refine region (eP T hS ⟨[(0, Sl a1 l_ c1), (1, Sl a2 ops c2), (5, Sl a154 out_153 c155), (6, I i_113), (7, I r123), (8, B gone_157), (9, I (wR (k_150 + 1)))], []⟩ fun a hS => ?_)
      exact ⟨⟨out_153, gone_157, wR (k_150 + 1)⟩, ⟨ρ, _, a154, c155, hm.1, hS.sl _, hO, h151, h152, h156⟩, hm.2⟩
     replace hm := hm.2 hb
     refine wexit (by rfl) ?_
     exact ⟨ρ, _, out_145, gone_149, a146, c147, hm, hS.sl _, hO, h143, h144, h148⟩
    rintro a w166 ⟨ρ, χ165, out_126, gone_130, a127, c128, hm, hS, hO, h124, h125, h129⟩
    unfold VC19_J3 at hm
    refine rP T hS ⟨[(0, Sl a1 l_ c1), (1, Sl a2 ops c2), (5, Sl a127 out_126 c128), (6, I i_113), (39, B (!gone_130))], []⟩ fun a hS => ?_
    refine wcond hS (b := (!gone_130)) kr (fun hb => ?_) (fun hb => ?_)
    ·replace hm := hm.1 hb
     refine region ?_
     refine oP T hS 3 ⟨[(0, Sl a1 l_ c1), (1, Sl a2 ops c2), (5, Sl a127 out_126 c128), (6, I i_113), (40, Sl a127 out_126 c128), (41, Sl a1 l_ c1), (42, I i_113)], []⟩ fun a hS => ?_
     obtain ⟨hq, hm⟩ := hm
     refine op1 (index (e := 54) (k := .i64) T hS kr kr kr kr h124 kr kr hq.1 hq.2 ?_)
     intro A131 a h132 hS
     refine op1 (loadA T hS kr kr kr h132 kr kr ?_)
     intro v133 a hv hS
     subst hv
     refine op1 (lit (E := 54) (col := 0) (T := tApi_Event) (vals := [.agg #[.int .i64 ((gi l_ i_113).What), .int .i64 ((gi l_ i_113).Prc), .int .i64 ((gi l_ i_113).N)]]) (ys := [gi l_ i_113]) T hS kr kr kr kr (by exact ⟨rfl, trivial⟩) rfl kr kr kr kr ?_)
     intro b134 a w135 χ136 hE h137 hN hS
     clear hN
     replace hO := hO.mv hE rfl rfl
     replace h124 := h124.mv hE rfl
     replace h125 := h125.mv hE rfl
     replace h129 := h129.mv hE rfl rfl
     replace h132 := h132.mv hE rfl
     replace h137 := h137.rs0
     obtain ⟨hq, hm⟩ := hm
     obtain ⟨news, hN⟩ := h137.src
     refine op1 (append (E := 54) (T := tApi_Event) (col := 1005) (xs := out_126) T hS kr kr kr kr h129 hN kr kr kr kr hq ?_)
     intro a141 c142 a w138 χ139 hE h140 hS
     clear hq hN
     clear h129
     replace hO := hO.mv hE rfl rfl
     replace h124 := h124.mv hE rfl
     replace h125 := h125.mv hE rfl
     replace h132 := h132.mv hE rfl
     replace h137 := h137.mv hE rfl
     refine eP T hS ⟨[(0, Sl a1 l_ c1), (1, Sl a2 ops c2), (5, Sl a141 (out_126 ++ [gi l_ i_113]) c142), (6, I i_113)], []⟩ fun a hS => ?_
     exact ⟨ρ, _, out_126 ++ [gi l_ i_113], a141, c142, hm, hS.sl _, hO, h124, h125, h140⟩
    replace hm := hm.2 hb
    refine wskip ?_
    exact ⟨ρ, _, out_126, a127, c128, hm, hS.sl _, hO, h124, h125, h129⟩
   rintro a w168 ⟨ρ, χ167, out_116, a117, c118, hm, hS, hO, h114, h115, h119⟩
   unfold VC19_J2 at hm
   refine region (eP T hS ⟨[(0, Sl a1 l_ c1), (1, Sl a2 ops c2), (5, Sl a117 out_116 c118), (6, I (wR (i_113 + 1)))], []⟩ fun a hS => ?_)
   exact ⟨⟨out_116, wR (i_113 + 1)⟩, ⟨ρ, _, a117, c118, hm.1, hS.sl _, hO, h114, h115, h119⟩, hm.2⟩
  replace hm := hm.2 hb
  refine wexit (by rfl) ?_
  exact ⟨ρ, _, out_109, a110, c111, hm, hS.sl _, hO, h112⟩
 rintro a w172 ⟨ρ, χ171, out_101, a102, c103, hm, hS, hO, h104⟩
 unfold VC19_J1 at hm
 refine rP T hS ⟨[(4, Sl a102 out_101 c103)], []⟩ fun a hS => ?_
 refine wret ?_
 obtain ⟨χ105, hE, hF⟩ := h104.freeze (by decide)
 replace hS := hS.ev hE (xone_box kr)
 replace hO := hO.mv hE rfl rfl
 have h106 := hF; clear hE hF
 exact fin T hS hO (fun c => c) rfl (r := [.slice a102 out_101.length c103]) kr (fun χ' hM hC => ⟨out_101, hm, a102, c103, rfl, h106.m0 hM⟩)
theorem C19 (k36 : S36) (v : ∀ (l_ : List Api_Event) (ops : List Int), preWo l_ ops → VC19 l_ ops (fun r => r = ref41_Without l_ ops)) : S19 := by
 intro w χ l_ ops a1 c1 a2 c2   hp h1 h2
 refine (W19 k36 w χ l_ ops a1 c1 a2 c2   _ (v l_ ops hp) h1 h2).mono ?_
 rintro _ _ _ _ ⟨r, rfl, h⟩
 exact h
end Go.Proofs.Ytojdelnnjhbgbaa
