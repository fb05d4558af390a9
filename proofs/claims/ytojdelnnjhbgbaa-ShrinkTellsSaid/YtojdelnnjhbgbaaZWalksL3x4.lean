/- Walks: each function returns what its condition asks. Condition: the contracts of its callees, handed in. -/
import Derived.Test.YtojdelnnjhbgbaaZWalksS
set_option linter.all false
namespace Go.Proofs.Ytojdelnnjhbgbaa
open Go Go.Sv
set_option maxHeartbeats 1000000
theorem W36 (w0) (X0) (l_ : List Api_Event) (at_ : Int) (a1) (c1) (Q : Int -> Prop) (hm : VC36 l_ at_ Q) (h1 : RS tApi_Event w0 X0 a1 l_ c1) :
  Ret Try.prog 36 #[.slice a1 l_.length c1, .int .i64 at_] xnone w0 X0 (fun w X' v => ∃ r, Q r /\ v = .int .i64 r) := by
 unfold VC36 at hm
 replace hm := hm (h1.sm kr)
 refine enter Try.func36 rfl (vals := [.slice a1 l_.length c1, .int .i64 at_]) kr ?_
 intro Z a hS hO hM
 replace h1 := h1.m0 hM
 refine rPb T hS [(0, Sl a1 l_ c1), (1, I at_)] fun a hS => ?_
 refine rPb T hS [(0, Sl a1 l_ c1), (1, I at_), (5, I (-1))] fun a hS => ?_
 refine rPb T hS [(0, Sl a1 l_ c1), (1, I at_), (5, I (-1)), (6, I (-1))] fun a hS => ?_
 refine wcut (fun a w => ∃ (Z : Nat -> Nat) (X : Nat -> Nat) (y102 : Int), VC36_J1 l_ at_ Q y102 /\ St Try.f36.ntmps ⟨[(0, Sl a1 l_ c1), (1, I at_), (6, I y102)], []⟩ Z a w X /\ Old w0 X0 w X /\ RS tApi_Event w X a1 l_ c1) ?_ ?_
 ·refine rPb T hS [(0, Sl a1 l_ c1), (1, I at_), (5, I (-1)), (6, I (-1)), (7, I 0)] fun a hS => ?_
  refine wblock ?_
  obtain ⟨I1, μ1, hm0, hm⟩ := hm
  refine wloop (σ := Int × Int × Int) (fun s a w => ∃ Z X, I1 s.1 s.2.1 s.2.2 /\ St Try.f36.ntmps ⟨[(0, Sl a1 l_ c1), (1, I at_), (5, I s.1), (6, I s.2.1), (7, I s.2.2)], []⟩ Z a w X /\ Old w0 X0 w X /\ RS tApi_Event w X a1 l_ c1) (fun s => μ1 s.1 s.2.1 s.2.2) (⟨(-1), (-1), 0⟩) ?_ ?_
  ·exact ⟨Z, _, hm0, hS.sl _, hO, h1⟩
  rintro ⟨y117, y118, y119⟩ a w152 ⟨Z, X151, hI, hS, hO, h116⟩
  replace hm := hm y117 y118 y119 hI
  clear hI hm0
  refine wseq ?_
  refine rPb T hS [(0, Sl a1 l_ c1), (1, I at_), (5, I y117), (6, I y118), (7, I y119), (10, B (decide (y119 ≤ at_)))] fun a hS => ?_
  refine wcond hS (b := decide (y119 ≤ at_)) kr (fun hb => ?_) fun hb => ?_
  ·replace hm := hm.1 hb
   refine wskip ?_
   refine wcut (fun a w => ∃ (Z : Nat -> Nat) (X : Nat -> Nat) (y121 : Int) (y122 : Int), VC36_J3 I1 μ1 y117 y118 y119 y121 y122 /\ St Try.f36.ntmps ⟨[(0, Sl a1 l_ c1), (1, I at_), (5, I y121), (6, I y122), (7, I y119)], []⟩ Z a w X /\ Old w0 X0 w X /\ RS tApi_Event w X a1 l_ c1) ?_ ?_
   ·refine wblock ?_
    refine wcut (fun a w => ∃ (Z : Nat -> Nat) (X : Nat -> Nat) (y124 : Int), VC36_J4 l_ at_ I1 μ1 y117 y118 y119 y124 /\ St Try.f36.ntmps ⟨[(0, Sl a1 l_ c1), (1, I at_), (5, I y124), (6, I y118), (7, I y119)], []⟩ Z a w X /\ Old w0 X0 w X /\ RS tApi_Event w X a1 l_ c1) ?_ ?_
    ·refine regO ?_
     refine oPb T hS 2 [(0, Sl a1 l_ c1), (1, I at_), (5, I y117), (6, I y118), (7, I y119), (13, Sl a1 l_ c1), (14, I y119)] fun a hS => ?_
     obtain ⟨hq, hm⟩ := hm
     refine op1 (index (e := 54) (k := .i64) T hS kr kr kr kr h116 kr kr hq.1 hq.2 ?_)
     intro A142 a h143 hS
     refine op1 (fieldA (off := 0) (fsz := 1) (ft := 3) (TF := tI) (y := (gi l_ y119).What) T hS kr kr kr h143 kr kr kr (fun cs h => Api_Event_f0 h) ?_)
     intro A144 a h145 hS
     refine op1 (load1 T hS kr kr kr h145 rfl kr ?_)
     intro v146 a hv hS
     cases hv
     refine ePb T hS [(0, Sl a1 l_ c1), (1, I at_), (5, I y117), (6, I y118), (7, I y119), (18, B (((gi l_ y119).What) == 1))] fun a hS => ?_
     refine wcond hS (b := (((gi l_ y119).What) == 1)) kr (fun hb => ?_) fun hb => ?_
     ·replace hm := hm.1 hb
      refine region (ePb T hS [(0, Sl a1 l_ c1), (1, I at_), (5, I (wR (y117 + 1))), (6, I y118), (7, I y119)] fun a hS => ?_)
      exact ⟨Z, _, wR (y117 + 1), hm, hS.sl _, hO, h116⟩
     replace hm := hm.2 hb
     refine wskip ?_
     exact ⟨Z, _, y117, hm, hS.sl _, hO, h116⟩
    rintro a w148 ⟨Z, X147, y124, hm, hS, hO, h123⟩
    unfold VC36_J4 at hm
    refine drawnSX [] mixed hS ?_
    intro w125 X126 hS hE hD hH
    replace hO := hO.m2 hE
    replace h123 := h123.m1 hE
    refine tkb T [0, 1, 5, 6] [] hS hH #[true, true, false, false, false, true, true, false, false, false, false] 7 [(0, Sl a1 l_ c1), (1, I at_), (5, I y124), (6, I y118), (7, I y119), (21, Sl a1 l_ c1), (22, I y119), (26, Sl a1 l_ c1), (27, I at_)] fun a hS => ?_
    obtain ⟨hq, hm⟩ := hm
    refine dindex (e := 54) (k := .i64) T 2 hS kr kr kr (by rfl) kr hH kr kr h123 kr kr hq.1 hq.2 ?_
    intro A127 a h128 hS
    have h128b := h128.here
    refine dfieldA (off := 1) (fsz := 1) (ft := 3) (TF := tI) (y := (gi l_ y119).Prc) 3 T hS kr kr kr (by rfl) kr hH kr h128 kr kr kr (fun cs h => Api_Event_f1 h) ?_
    intro A129 a h130 hbl hS
    have h130b := h128b
    rw [← hbl] at h130b
    clear hbl
    refine dload1 T 4 hS kr kr kr (by rfl) kr hH kr h130 h130b rfl kr ?_
    intro v131 a hv hS
    cases hv
    obtain ⟨hq, hm⟩ := hm
    refine dindex (e := 54) (k := .i64) T 7 hS kr kr kr (by rfl) kr hH kr kr h123 kr kr hq.1 hq.2 ?_
    intro A132 a h133 hS
    have h133b := h133.here
    refine dfieldA (off := 1) (fsz := 1) (ft := 3) (TF := tI) (y := (gi l_ at_).Prc) 8 T hS kr kr kr (by rfl) kr hH kr h133 kr kr kr (fun cs h => Api_Event_f1 h) ?_
    intro A134 a h135 hbl hS
    have h135b := h133b
    rw [← hbl] at h135b
    clear hbl
    refine dload1 T 9 hS kr kr kr (by rfl) kr hH kr h135 h135b rfl kr ?_
    intro v136 a hv hS
    cases hv
    refine tkb T [10] [] hS hH (tts 11) 0 [(0, Sl a1 l_ c1), (1, I at_), (5, I y124), (6, I y118), (7, I y119), (31, B (((gi l_ y119).Prc) == ((gi l_ at_).Prc)))] fun a hS => ?_
    refine drawnDone kr ?_
    replace hS := hS.slb [(0, Sl a1 l_ c1), (1, I at_), (5, I y124), (6, I y118), (7, I y119), (31, B (((gi l_ y119).Prc) == ((gi l_ at_).Prc)))]
    refine wcond hS (b := (((gi l_ y119).Prc) == ((gi l_ at_).Prc))) kr (fun hb => ?_) fun hb => ?_
    ·replace hm := hm.1 hb
     refine regO ?_
     refine oPb T hS 2 [(0, Sl a1 l_ c1), (1, I at_), (5, I y124), (6, I y118), (7, I y119), (32, Sl a1 l_ c1), (33, I y119)] fun a hS => ?_
     obtain ⟨hq, hm⟩ := hm
     refine op1 (index (e := 54) (k := .i64) T hS kr kr kr kr h123 kr kr hq.1 hq.2 ?_)
     intro A137 a h138 hS
     refine op1 (fieldA (off := 0) (fsz := 1) (ft := 3) (TF := tI) (y := (gi l_ y119).What) T hS kr kr kr h138 kr kr kr (fun cs h => Api_Event_f0 h) ?_)
     intro A139 a h140 hS
     refine op1 (load1 T hS kr kr kr h140 rfl kr ?_)
     intro v141 a hv hS
     cases hv
     refine ePb T hS [(0, Sl a1 l_ c1), (1, I at_), (5, I y124), (6, I y118), (7, I y119), (37, B (((gi l_ y119).What) == 1))] fun a hS => ?_
     refine wcond hS (b := (((gi l_ y119).What) == 1)) kr (fun hb => ?_) fun hb => ?_
     ·replace hm := hm.1 hb
      refine region (ePb T hS [(0, Sl a1 l_ c1), (1, I at_), (5, I y124), (6, I y124), (7, I y119)] fun a hS => ?_)
      exact ⟨Z, _, y124, y124, hm, hS.sl _, hO, h123⟩
     replace hm := hm.2 hb
     refine rPb T hS [(0, Sl a1 l_ c1), (1, I at_), (5, I y124), (6, I y118), (7, I y119), (41, B (decide (y119 < at_)))] fun a hS => ?_
     refine wcond hS (b := decide (y119 < at_)) kr (fun hb => ?_) fun hb => ?_
     ·replace hm := hm.1 hb
      refine region (ePb T hS [(0, Sl a1 l_ c1), (1, I at_), (5, I y124), (6, I (-1)), (7, I y119)] fun a hS => ?_)
      exact ⟨Z, _, y124, (-1), hm, hS.sl _, hO, h123⟩
     replace hm := hm.2 hb
     refine wskip ?_
     exact ⟨Z, _, y124, y118, hm, hS.sl _, hO, h123⟩
    replace hm := hm.2 hb
    refine wskip ?_
    exact ⟨Z, _, y124, y118, hm, hS.sl _, hO, h123⟩
   rintro a w150 ⟨Z, X149, y121, y122, hm, hS, hO, h120⟩
   unfold VC36_J3 at hm
   refine region (ePb T hS [(0, Sl a1 l_ c1), (1, I at_), (5, I y121), (6, I y122), (7, I (wR (y119 + 1)))] fun a hS => ?_)
   exact ⟨⟨y121, y122, wR (y119 + 1)⟩, ⟨Z, _, hm.1, hS.sl _, hO, h120⟩, hm.2⟩
  replace hm := hm.2 hb
  refine wexit (by rfl) ?_
  exact ⟨Z, _, y118, hm, hS.sl _, hO, h116⟩
 rintro a w154 ⟨Z, X153, y102, hm, hS, hO, h101⟩
 unfold VC36_J1 at hm
 refine wseq ?_
 refine wcut (fun a w => ∃ (Z : Nat -> Nat) (X : Nat -> Nat) (y103 : Bool), VC36_J2 Q y102 y103 /\ St Try.f36.ntmps ⟨[(6, I y102), (55, B y103)], []⟩ Z a w X /\ Old w0 X0 w X) ?_ ?_
 ·refine region ?_
  refine oPb T hS 2 [(0, Sl a1 l_ c1), (1, I at_), (6, I y102), (42, Sl a1 l_ c1), (43, I at_)] fun a hS => ?_
  obtain ⟨hq, hm⟩ := hm
  refine op1 (index (e := 54) (k := .i64) T hS kr kr kr kr h101 kr kr hq.1 hq.2 ?_)
  intro A104 a h105 hS
  refine op1 (fieldA (off := 0) (fsz := 1) (ft := 3) (TF := tI) (y := (gi l_ at_).What) T hS kr kr kr h105 kr kr kr (fun cs h => Api_Event_f0 h) ?_)
  intro A106 a h107 hS
  refine op1 (load1 T hS kr kr kr h107 rfl kr ?_)
  intro v108 a hv hS
  cases hv
  refine oPb T hS 2 [(0, Sl a1 l_ c1), (1, I at_), (6, I y102), (48, B (((gi l_ at_).What) != 1))] fun a hS => ?_
  rcases bft (((gi l_ at_).What) != 1) with hb | hb
  ·replace hS := hS.lit (t := 48) kr hb
   replace hm := hm.1 hb
   refine oPb T hS 2 [(6, I y102), (48, B true), (49, Sl a1 l_ c1), (50, I at_)] fun a hS => ?_
   obtain ⟨hq, hm⟩ := hm
   refine op1 (index (e := 54) (k := .i64) T hS kr kr kr kr h101 kr kr hq.1 hq.2 ?_)
   intro A109 a h110 hS
   refine op1 (fieldA (off := 0) (fsz := 1) (ft := 3) (TF := tI) (y := (gi l_ at_).What) T hS kr kr kr h110 kr kr kr (fun cs h => Api_Event_f0 h) ?_)
   intro A111 a h112 hS
   refine op1 (load1 T hS kr kr kr h112 rfl kr ?_)
   intro v113 a hv hS
   cases hv
   refine ePb T hS [(6, I y102), (55, B (((gi l_ at_).What) != 2))] fun a hS => ?_
   exact ⟨Z, _, (((gi l_ at_).What) != 2), hm, hS.sl _, hO⟩
  replace hS := hS.lit (t := 48) kr hb
  replace hm := hm.2 hb
  refine ePb T hS [(6, I y102), (55, B false)] fun a hS => ?_
  exact ⟨Z, _, false, hm, hS.sl _, hO⟩
 rintro a w115 ⟨Z, X114, y103, hm, hS, hO⟩
 unfold VC36_J2 at hm
 refine wcond hS (b := y103) kr (fun hb => ?_) fun hb => ?_
 ·replace hm := hm.1 hb
  refine rPb T hS [(4, I (-1))] fun a hS => ?_
  refine wret ?_
  exact fin T hS hO (fun c => c) rfl (r := [.int .i64 (-1)]) kr (fun X' hM hC => ⟨(-1), hm, rfl⟩)
 replace hm := hm.2 hb
 refine wskip ?_
 refine rPb T hS [(4, I y102)] fun a hS => ?_
 refine wret ?_
 exact fin T hS hO (fun c => c) rfl (r := [.int .i64 y102]) kr (fun X' hM hC => ⟨y102, hm, rfl⟩)
theorem C36 (v : ∀ (l_ : List Api_Event) (at_ : Int), preOw l_ at_ -> VC36 l_ at_ (fun r => r = ref41_Owner l_ at_)) : S36 := by
 intro w X l_ at_ a1 c1   hp h1
 refine (W36 w X l_ at_ a1 c1   _ (v l_ at_ hp) h1).mono ?_
 rintro _ _ _ _ ⟨r, rfl, h⟩
 exact h
theorem W19 (k36 : S36) (w0) (X0) (l_ : List Api_Event) (ops : List Int) (a1) (c1) (a2) (c2) (Q : (List Api_Event) -> Prop) (hm : VC19 l_ ops Q) (h1 : RS tApi_Event w0 X0 a1 l_ c1) (h2 : RS tI w0 X0 a2 ops c2) :
  Ret Try.prog 19 #[.slice a1 l_.length c1, .slice a2 ops.length c2] xnone w0 X0 (fun w X' v => ∃ r, Q r /\ ∃ ra1 rc1, v = .slice ra1 r.length rc1 /\ RS tApi_Event w X' ra1 r rc1) := by
 unfold VC19 at hm
 replace hm := hm (h1.sm kr)
 replace hm := hm (h2.sm kr)
 refine enter Try.func19 rfl (vals := [.slice a1 l_.length c1, .slice a2 ops.length c2]) kr ?_
 intro Z a hS hO hM
 replace h1 := h1.m0 hM
 replace h2 := h2.m0 hM
 refine rPb T hS [(0, Sl a1 l_ c1), (1, Sl a2 ops c2)] fun a hS => ?_
 refine rPb T hS [(0, Sl a1 l_ c1), (1, Sl a2 ops c2), (5, V (.slice none 0 0))] fun a hS => ?_
 refine wcut (fun a w => ∃ (Z : Nat -> Nat) (X : Nat -> Nat) (y101 : List Api_Event) (a102 : Option Addr) (c103 : Nat), VC19_J1 Q y101 /\ St Try.f19.ntmps ⟨[(5, Sl a102 y101 c103)], []⟩ Z a w X /\ Old w0 X0 w X /\ OS tApi_Event 54 w X 1005 a102 y101 c103) ?_ ?_
 ·refine rPb T hS [(0, Sl a1 l_ c1), (1, Sl a2 ops c2), (5, V (.slice none 0 0)), (6, I 0)] fun a hS => ?_
  refine wblock ?_
  obtain ⟨I1, μ1, hm0, hm⟩ := hm
  refine wloop (σ := (List Api_Event) × Int) (fun s a w => ∃ Z X a110 c111, I1 s.1 s.2 /\ St Try.f19.ntmps ⟨[(0, Sl a1 l_ c1), (1, Sl a2 ops c2), (5, Sl a110 s.1 c111), (6, I s.2)], []⟩ Z a w X /\ Old w0 X0 w X /\ RS tApi_Event w X a1 l_ c1 /\ RS tI w X a2 ops c2 /\ OS tApi_Event 54 w X 1005 a110 s.1 c111) (fun s => μ1 s.1 s.2) (⟨[], 0⟩) ?_ ?_
  ·exact ⟨Z, _, none, 0, hm0, hS.sl _, hO, h1, h2, (OS.nil _ _ _ _ _)⟩
  rintro ⟨y109, y113⟩ a w170 ⟨Z, X169, a110, c111, hI, hS, hO, h107, h108, h112⟩
  replace hm := hm y109 y113 hI
  clear hI hm0
  refine wseq ?_
  refine rPb T hS [(0, Sl a1 l_ c1), (1, Sl a2 ops c2), (5, Sl a110 y109 c111), (6, I y113), (13, B (decide (y113 < (lN l_))))] fun a hS => ?_
  refine wcond hS (b := decide (y113 < (lN l_))) kr (fun hb => ?_) fun hb => ?_
  ·replace hm := hm.1 hb
   refine wskip ?_
   refine wcut (fun a w => ∃ (Z : Nat -> Nat) (X : Nat -> Nat) (y116 : List Api_Event) (a117 : Option Addr) (c118 : Nat), VC19_J2 I1 μ1 y109 y113 y116 /\ St Try.f19.ntmps ⟨[(0, Sl a1 l_ c1), (1, Sl a2 ops c2), (5, Sl a117 y116 c118), (6, I y113)], []⟩ Z a w X /\ Old w0 X0 w X /\ RS tApi_Event w X a1 l_ c1 /\ RS tI w X a2 ops c2 /\ OS tApi_Event 54 w X 1005 a117 y116 c118) ?_ ?_
   ·refine wblock ?_
    refine regO ?_
    refine oPb T hS 2 [(0, Sl a1 l_ c1), (1, Sl a2 ops c2), (5, Sl a110 y109 c111), (6, I y113), (16, Sl a1 l_ c1), (17, I y113)] fun a hS => ?_
    obtain ⟨hq, hm⟩ := hm
    refine op1 (call hS kr kr hb36 kr (fun _ _ => rfl) (k36 _ _ l_ y113 a1 c1 hq h107) ?_)
    intro v120 a w121 X122 hE hp hS
    replace hO := hO.m2 hE
    replace h107 := h107.m1 hE
    replace h108 := h108.m1 hE
    replace h112 := h112.m2 hE
    obtain ⟨r123, hr⟩ : ∃ r, ref41_Owner l_ y113 = r := ⟨_, rfl⟩
    replace hm := hm r123 hr
    rw [hr] at hp
    clear hr
    subst hp
    refine ePb T hS [(0, Sl a1 l_ c1), (1, Sl a2 ops c2), (5, Sl a110 y109 c111), (6, I y113), (7, I r123)] fun a hS => ?_
    refine rPb T hS [(0, Sl a1 l_ c1), (1, Sl a2 ops c2), (5, Sl a110 y109 c111), (6, I y113), (7, I r123), (8, B false)] fun a hS => ?_
    refine wcut (fun a w => ∃ (Z : Nat -> Nat) (X : Nat -> Nat) (y126 : List Api_Event) (y130 : Bool) (a127 : Option Addr) (c128 : Nat), VC19_J3 l_ I1 μ1 y109 y113 y126 y130 /\ St Try.f19.ntmps ⟨[(0, Sl a1 l_ c1), (1, Sl a2 ops c2), (5, Sl a127 y126 c128), (6, I y113), (8, B y130)], []⟩ Z a w X /\ Old w0 X0 w X /\ RS tApi_Event w X a1 l_ c1 /\ RS tI w X a2 ops c2 /\ OS tApi_Event 54 w X 1005 a127 y126 c128) ?_ ?_
    ·refine rPb T hS [(0, Sl a1 l_ c1), (1, Sl a2 ops c2), (5, Sl a110 y109 c111), (6, I y113), (7, I r123), (8, B false), (9, I 0)] fun a hS => ?_
     refine wblock ?_
     obtain ⟨I2, μ2, hm0, hm⟩ := hm
     refine wloop (σ := (List Api_Event) × Bool × Int) (fun s a w => ∃ Z X a146 c147, I2 s.1 s.2.1 s.2.2 /\ St Try.f19.ntmps ⟨[(0, Sl a1 l_ c1), (1, Sl a2 ops c2), (5, Sl a146 s.1 c147), (6, I y113), (7, I r123), (8, B s.2.1), (9, I s.2.2)], []⟩ Z a w X /\ Old w0 X0 w X /\ RS tApi_Event w X a1 l_ c1 /\ RS tI w X a2 ops c2 /\ OS tApi_Event 54 w X 1005 a146 s.1 c147) (fun s => μ2 s.1 s.2.1 s.2.2) (⟨y109, false, 0⟩) ?_ ?_
     ·exact ⟨Z, _, a110, c111, hm0, hS.sl _, hO, h107, h108, h112⟩
     rintro ⟨y145, y149, y150⟩ a w164 ⟨Z, X163, a146, c147, hI, hS, hO, h143, h144, h148⟩
     replace hm := hm y145 y149 y150 hI
     clear hI hm0
     refine wseq ?_
     refine rPb T hS [(0, Sl a1 l_ c1), (1, Sl a2 ops c2), (5, Sl a146 y145 c147), (6, I y113), (7, I r123), (8, B y149), (9, I y150), (22, B (decide (y150 < (lN ops))))] fun a hS => ?_
     refine wcond hS (b := decide (y150 < (lN ops))) kr (fun hb => ?_) fun hb => ?_
     ·replace hm := hm.1 hb
      refine wskip ?_
      refine wcut (fun a w => ∃ (Z : Nat -> Nat) (X : Nat -> Nat) (y153 : List Api_Event) (y157 : Bool) (a154 : Option Addr) (c155 : Nat), VC19_J4 I2 μ2 y145 y149 y150 y153 y157 /\ St Try.f19.ntmps ⟨[(0, Sl a1 l_ c1), (1, Sl a2 ops c2), (5, Sl a154 y153 c155), (6, I y113), (7, I r123), (8, B y157), (9, I y150)], []⟩ Z a w X /\ Old w0 X0 w X /\ RS tApi_Event w X a1 l_ c1 /\ RS tI w X a2 ops c2 /\ OS tApi_Event 54 w X 1005 a154 y153 c155) ?_ ?_
      ·refine wblock ?_
       refine region ?_
       refine oPb T hS 2 [(0, Sl a1 l_ c1), (1, Sl a2 ops c2), (5, Sl a146 y145 c147), (6, I y113), (7, I r123), (8, B y149), (9, I y150), (26, B y149)] fun a hS => ?_
       rcases bft y149 with hb | hb
       ·replace hS := hS.lit (t := 26) kr hb
        replace hm := hm.1 hb
        refine ePb T hS [(0, Sl a1 l_ c1), (1, Sl a2 ops c2), (5, Sl a146 y145 c147), (6, I y113), (7, I r123), (8, B true), (9, I y150)] fun a hS => ?_
        exact ⟨Z, _, y145, true, a146, c147, hm, hS.sl _, hO, h143, h144, h148⟩
       replace hS := hS.lit (t := 26) kr hb
       replace hm := hm.2 hb
       refine oPb T hS 3 [(0, Sl a1 l_ c1), (1, Sl a2 ops c2), (5, Sl a146 y145 c147), (6, I y113), (7, I r123), (8, B y149), (9, I y150), (26, B false), (29, B (decide (r123 ≥ 0)))] fun a hS => ?_
       rcases bft (decide (r123 ≥ 0)) with hb | hb
       ·replace hS := hS.lit (t := 29) kr hb
        replace hm := hm.1 hb
        refine oPb T hS 2 [(0, Sl a1 l_ c1), (1, Sl a2 ops c2), (5, Sl a146 y145 c147), (6, I y113), (7, I r123), (8, B y149), (9, I y150), (26, B false), (29, B true), (30, Sl a2 ops c2), (31, I y150)] fun a hS => ?_
        obtain ⟨hq, hm⟩ := hm
        refine op1 (index (e := 3) (k := .i64) T hS kr kr kr kr h144 kr kr hq.1 hq.2 ?_)
        intro A158 a h159 hS
        refine op1 (load1 T hS kr kr kr h159 rfl kr ?_)
        intro v160 a hv hS
        cases hv
        refine ePb T hS [(0, Sl a1 l_ c1), (1, Sl a2 ops c2), (5, Sl a146 y145 c147), (6, I y113), (7, I r123), (8, B ((gi ops y150) == r123)), (9, I y150)] fun a hS => ?_
        exact ⟨Z, _, y145, ((gi ops y150) == r123), a146, c147, hm, hS.sl _, hO, h143, h144, h148⟩
       replace hS := hS.lit (t := 29) kr hb
       replace hm := hm.2 hb
       refine ePb T hS [(0, Sl a1 l_ c1), (1, Sl a2 ops c2), (5, Sl a146 y145 c147), (6, I y113), (7, I r123), (8, B false), (9, I y150)] fun a hS => ?_
       exact ⟨Z, _, y145, false, a146, c147, hm, hS.sl _, hO, h143, h144, h148⟩
      rintro a w162 ⟨Z, X161, y153, y157, a154, c155, hm, hS, hO, h151, h152, h156⟩
      unfold VC19_J4 at hm
      refine region (ePb T hS [(0, Sl a1 l_ c1), (1, Sl a2 ops c2), (5, Sl a154 y153 c155), (6, I y113), (7, I r123), (8, B y157), (9, I (wR (y150 + 1)))] fun a hS => ?_)
      exact ⟨⟨y153, y157, wR (y150 + 1)⟩, ⟨Z, _, a154, c155, hm.1, hS.sl _, hO, h151, h152, h156⟩, hm.2⟩
     replace hm := hm.2 hb
     refine wexit (by rfl) ?_
     exact ⟨Z, _, y145, y149, a146, c147, hm, hS.sl _, hO, h143, h144, h148⟩
    rintro a w166 ⟨Z, X165, y126, y130, a127, c128, hm, hS, hO, h124, h125, h129⟩
    unfold VC19_J3 at hm
    refine rPb T hS [(0, Sl a1 l_ c1), (1, Sl a2 ops c2), (5, Sl a127 y126 c128), (6, I y113), (39, B (!y130))] fun a hS => ?_
    refine wcond hS (b := (!y130)) kr (fun hb => ?_) fun hb => ?_
    ·replace hm := hm.1 hb
     refine region ?_
     refine oPb T hS 3 [(0, Sl a1 l_ c1), (1, Sl a2 ops c2), (5, Sl a127 y126 c128), (6, I y113), (40, Sl a127 y126 c128), (41, Sl a1 l_ c1), (42, I y113)] fun a hS => ?_
     obtain ⟨hq, hm⟩ := hm
     refine op1 (index (e := 54) (k := .i64) T hS kr kr kr kr h124 kr kr hq.1 hq.2 ?_)
     intro A131 a h132 hS
     refine op1 (loadA T hS kr kr kr h132 kr kr ?_)
     intro v133 a hv hS
     subst hv
     refine op1 (lit (E := 54) (col := 0) (T := tApi_Event) (vals := [.agg #[.int .i64 ((gi l_ y113).What), .int .i64 ((gi l_ y113).Prc), .int .i64 ((gi l_ y113).N)]]) (ys := [gi l_ y113]) T hS kr kr kr kr (by exact ⟨rfl, trivial⟩) rfl kr kr kr kr ?_)
     intro b134 a w135 X136 hE h137 hN hS
     clear hN
     replace hO := hO.m2 hE
     replace h124 := h124.m1 hE
     replace h125 := h125.m1 hE
     replace h129 := h129.m2 hE
     replace h132 := h132.m1 hE
     replace h137 := h137.rs0
     obtain ⟨hq, hm⟩ := hm
     obtain ⟨news, hN⟩ := h137.src
     refine op1 (append (E := 54) (T := tApi_Event) (col := 1005) (xs := y126) T hS kr kr kr kr h129 hN kr kr kr kr hq ?_)
     intro a141 c142 a w138 X139 hE h140 hS
     clear hq hN
     clear h129
     replace hO := hO.m2 hE
     replace h124 := h124.m1 hE
     replace h125 := h125.m1 hE
     replace h132 := h132.m1 hE
     replace h137 := h137.m1 hE
     refine ePb T hS [(0, Sl a1 l_ c1), (1, Sl a2 ops c2), (5, Sl a141 (y126 ++ [gi l_ y113]) c142), (6, I y113)] fun a hS => ?_
     exact ⟨Z, _, y126 ++ [gi l_ y113], a141, c142, hm, hS.sl _, hO, h124, h125, h140⟩
    replace hm := hm.2 hb
    refine wskip ?_
    exact ⟨Z, _, y126, a127, c128, hm, hS.sl _, hO, h124, h125, h129⟩
   rintro a w168 ⟨Z, X167, y116, a117, c118, hm, hS, hO, h114, h115, h119⟩
   unfold VC19_J2 at hm
   refine region (ePb T hS [(0, Sl a1 l_ c1), (1, Sl a2 ops c2), (5, Sl a117 y116 c118), (6, I (wR (y113 + 1)))] fun a hS => ?_)
   exact ⟨⟨y116, wR (y113 + 1)⟩, ⟨Z, _, a117, c118, hm.1, hS.sl _, hO, h114, h115, h119⟩, hm.2⟩
  replace hm := hm.2 hb
  refine wexit (by rfl) ?_
  exact ⟨Z, _, y109, a110, c111, hm, hS.sl _, hO, h112⟩
 rintro a w172 ⟨Z, X171, y101, a102, c103, hm, hS, hO, h104⟩
 unfold VC19_J1 at hm
 refine rPb T hS [(4, Sl a102 y101 c103)] fun a hS => ?_
 refine wret ?_
 obtain ⟨X105, hE, hF⟩ := h104.freeze (by decide)
 replace hS := hS.ev hE (xone_box kr)
 replace hO := hO.m2 hE
 have h106 := hF; clear hE hF
 exact fin T hS hO (fun c => c) rfl (r := [.slice a102 y101.length c103]) kr (fun X' hM hC => ⟨y101, hm, a102, c103, rfl, h106.m0 hM⟩)
theorem C19 (k36 : S36) (v : ∀ (l_ : List Api_Event) (ops : List Int), preWo l_ ops -> VC19 l_ ops (fun r => r = ref41_Without l_ ops)) : S19 := by
 intro w X l_ ops a1 c1 a2 c2   hp h1 h2
 refine (W19 k36 w X l_ ops a1 c1 a2 c2   _ (v l_ ops hp) h1 h2).mono ?_
 rintro _ _ _ _ ⟨r, rfl, h⟩
 exact h
end Go.Proofs.Ytojdelnnjhbgbaa
