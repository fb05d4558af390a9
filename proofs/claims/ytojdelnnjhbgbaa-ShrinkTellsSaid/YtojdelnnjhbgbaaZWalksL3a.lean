/- Walks: each function returns what its condition asks. Condition: the contracts of its callees, handed in. -/
import Derived.Test.YtojdelnnjhbgbaaZWalksS
set_option linter.all false
namespace Go.Proofs.Ytojdelnnjhbgbaa
open Go Go.Sv
set_option maxHeartbeats 1000000
theorem W61 (w0) (X0) (picks : List Api_Pick) (i_ : Int) (a1) (c1) (Q : Int -> Prop) (hm : VC61 picks i_ Q) (h1 : RS tApi_Pick w0 X0 a1 picks c1) :
  Ret Try.prog 61 #[.slice a1 picks.length c1, .int .i64 i_] xnone w0 X0 (fun w X' v => ∃ r, Q r /\ v = .int .i64 r) := by
 unfold VC61 at hm
 replace hm := hm (h1.sm kr)
 refine enter Try.func61 rfl (vals := [.slice a1 picks.length c1, .int .i64 i_]) kr ?_
 intro Z a hS hO hM
 replace h1 := h1.m0 hM
 refine rPb T hS [(0, Sl a1 picks c1), (1, I i_)] fun a hS => ?_
 refine wcut (fun a w => ∃ Z X, VC61_J1 Q /\ St Try.f61.ntmps ⟨[], []⟩ Z a w X /\ Old w0 X0 w X) ?_ ?_
 ·refine rPb T hS [(0, Sl a1 picks c1), (1, I i_), (5, I 0)] fun a hS => ?_
  refine wblock ?_
  obtain ⟨I1, μ1, hm0, hm⟩ := hm
  refine wloop (σ := Int) (fun s a w => ∃ Z X, I1 s /\ St Try.f61.ntmps ⟨[(0, Sl a1 picks c1), (1, I i_), (5, I s)], []⟩ Z a w X /\ Old w0 X0 w X /\ RS tApi_Pick w X a1 picks c1) (fun s => μ1 s) (0) ?_ ?_
  ·exact ⟨Z, _, hm0, hS.sl _, hO, h1⟩
  rintro y102 a w109 ⟨Z, X108, hI, hS, hO, h101⟩
  replace hm := hm y102 hI
  clear hI hm0
  refine wseq ?_
  refine rPb T hS [(0, Sl a1 picks c1), (1, I i_), (5, I y102), (9, B (decide (y102 < (lN picks))))] fun a hS => ?_
  refine wcond hS (b := decide (y102 < (lN picks))) kr (fun hb => ?_) fun hb => ?_
  ·replace hm := hm.1 hb
   refine wskip (wseq ?_)
   refine wblock ?_
   refine regO ?_
   refine oPb T hS 2 [(0, Sl a1 picks c1), (1, I i_), (5, I y102), (12, Sl a1 picks c1), (13, I y102)] fun a hS => ?_
   obtain ⟨hq, hm⟩ := hm
   refine op1 (index (e := 109) (k := .i64) T hS kr kr kr kr h101 kr kr hq.1 hq.2 ?_)
   intro A103 a h104 hS
   refine op1 (fieldA (off := 0) (fsz := 1) (ft := 3) (TF := tI) (y := (gi picks y102).Oper) T hS kr kr kr h104 kr kr kr (fun cs h => Api_Pick_f0 h) ?_)
   intro A105 a h106 hS
   refine op1 (load1 T hS kr kr kr h106 rfl kr ?_)
   intro v107 a hv hS
   cases hv
   refine ePb T hS [(0, Sl a1 picks c1), (1, I i_), (5, I y102), (18, B (((gi picks y102).Oper) == i_))] fun a hS => ?_
   refine wcond hS (b := (((gi picks y102).Oper) == i_)) kr (fun hb => ?_) fun hb => ?_
   ·replace hm := hm.1 hb
    refine rPb T hS [(4, I y102)] fun a hS => ?_
    refine wret ?_
    exact fin T hS hO (fun c => c) rfl (r := [.int .i64 y102]) kr (fun X' hM hC => ⟨y102, hm, rfl⟩)
   replace hm := hm.2 hb
   refine wskip ?_
   refine region (ePb T hS [(0, Sl a1 picks c1), (1, I i_), (5, I (wR (y102 + 1)))] fun a hS => ?_)
   exact ⟨wR (y102 + 1), ⟨Z, _, hm.1, hS.sl _, hO, h101⟩, hm.2⟩
  replace hm := hm.2 hb
  refine wexit (by rfl) ?_
  exact ⟨Z, _, hm, hS.sl _, hO⟩
 rintro a w111 ⟨Z, X110, hm, hS, hO⟩
 unfold VC61_J1 at hm
 refine rPb T hS [(4, I (-1))] fun a hS => ?_
 refine wret ?_
 exact fin T hS hO (fun c => c) rfl (r := [.int .i64 (-1)]) kr (fun X' hM hC => ⟨(-1), hm, rfl⟩)
theorem C61 (v : ∀ (picks : List Api_Pick) (i_ : Int), VC61 picks i_ (fun r => r = ref29_Place picks i_)) : S61 := by
 intro w X picks i_ a1 c1   h1
 refine (W61 w X picks i_ a1 c1   _ (v picks i_) h1).mono ?_
 rintro _ _ _ _ ⟨r, rfl, h⟩
 exact h
theorem W60 (w0) (X0) (o_ : Api_Object) (state : Int) (kind : Int) (a1) (c1) (Q : Int × Int × Bool -> Prop) (hm : VC60 o_ state kind Q) (h1 : RS tApi_Row w0 X0 a1 o_.Rows c1) :
  Ret Try.prog 60 #[.agg #[.int .i64 o_.States, .int .i64 o_.Kinds, .int .i64 o_.Init, .slice a1 o_.Rows.length c1], .int .i64 state, .int .i64 kind] xnone w0 X0 (fun w X' v => ∃ r, Q r /\ v = .tuple #[.int .i64 r.1, .int .i64 r.2.1, .bool r.2.2]) := by
 unfold VC60 at hm
 replace hm := hm (h1.sm kr)
 refine enter Try.func60 rfl (vals := [.agg #[.int .i64 o_.States, .int .i64 o_.Kinds, .int .i64 o_.Init, .slice a1 o_.Rows.length c1], .int .i64 state, .int .i64 kind]) kr ?_
 intro Z a hS hO hM
 replace h1 := h1.m0 hM
 refine rM T hS ⟨[(1, I state), (2, I kind), (3, Pt 4 0)], [(4, (24, (cO o_ a1 c1)))]⟩ fun Z a w133 X134 hS hE hr => ?_
 replace hO := hO.m2 hE
 replace h1 := h1.m1 hE
 clear hE hr
 refine wcut (fun a w => ∃ Z X, VC60_J1 Q /\ St Try.f60.ntmps ⟨[], []⟩ Z a w X /\ Old w0 X0 w X) ?_ ?_
 ·refine rPb T hS [(1, I state), (2, I kind), (3, Pt 4 0), (9, I 0)] fun a hS => ?_
  refine wblock ?_
  obtain ⟨I1, μ1, hm0, hm⟩ := hm
  refine wloop (σ := Int) (fun s a w => ∃ Z X, I1 s /\ St Try.f60.ntmps ⟨[(1, I state), (2, I kind), (3, Pt 4 0), (9, I s)], [(4, (24, (cO o_ a1 c1)))]⟩ Z a w X /\ Old w0 X0 w X /\ RS tApi_Row w X a1 o_.Rows c1) (fun s => μ1 s) (0) ?_ ?_
  ·exact ⟨Z, _, hm0, hS.sl _, hO, h1⟩
  rintro y101 a w130 ⟨Z, X129, hI, hS, hO, h102⟩
  replace hm := hm y101 hI
  clear hI hm0
  refine wseq ?_
  refine rPb T hS [(1, I state), (2, I kind), (3, Pt 4 0), (9, I y101), (14, B (decide (y101 < (lN o_.Rows))))] fun a hS => ?_
  refine wcond hS (b := decide (y101 < (lN o_.Rows))) kr (fun hb => ?_) fun hb => ?_
  ·replace hm := hm.1 hb
   refine wskip (wseq ?_)
   refine wblock ?_
   refine wcut (fun a w => ∃ (Z : Nat -> Nat) (X : Nat -> Nat) (y103 : Bool), VC60_J2 o_ Q I1 μ1 y101 y103 /\ St Try.f60.ntmps ⟨[(1, I state), (2, I kind), (3, Pt 4 0), (9, I y101), (34, B y103)], [(4, (24, (cO o_ a1 c1)))]⟩ Z a w X /\ Old w0 X0 w X /\ RS tApi_Row w X a1 o_.Rows c1) ?_ ?_
   ·refine region ?_
    refine oPb T hS 3 [(1, I state), (2, I kind), (3, Pt 4 0), (9, I y101), (18, Sl a1 o_.Rows c1), (19, I y101)] fun a hS => ?_
    obtain ⟨hq, hm⟩ := hm
    refine op1 (index (e := 76) (k := .i64) T hS kr kr kr kr h102 kr kr hq.1 hq.2 ?_)
    intro A117 a h118 hS
    refine op1 (fieldA (off := 0) (fsz := 1) (ft := 3) (TF := tI) (y := (gi o_.Rows y101).State) T hS kr kr kr h118 kr kr kr (fun cs h => Api_Row_f0 h) ?_)
    intro A119 a h120 hS
    refine op1 (load1 T hS kr kr kr h120 rfl kr ?_)
    intro v121 a hv hS
    cases hv
    refine oPb T hS 3 [(1, I state), (2, I kind), (3, Pt 4 0), (9, I y101), (25, B (((gi o_.Rows y101).State) == state))] fun a hS => ?_
    rcases bft (((gi o_.Rows y101).State) == state) with hb | hb
    ·replace hS := hS.lit (t := 25) kr hb
     replace hm := hm.1 hb
     refine oPb T hS 3 [(1, I state), (2, I kind), (3, Pt 4 0), (9, I y101), (25, B true), (27, Sl a1 o_.Rows c1), (28, I y101)] fun a hS => ?_
     obtain ⟨hq, hm⟩ := hm
     refine op1 (index (e := 76) (k := .i64) T hS kr kr kr kr h102 kr kr hq.1 hq.2 ?_)
     intro A122 a h123 hS
     refine op1 (fieldA (off := 1) (fsz := 1) (ft := 3) (TF := tI) (y := (gi o_.Rows y101).Kind) T hS kr kr kr h123 kr kr kr (fun cs h => Api_Row_f1 h) ?_)
     intro A124 a h125 hS
     refine op1 (load1 T hS kr kr kr h125 rfl kr ?_)
     intro v126 a hv hS
     cases hv
     refine ePb T hS [(1, I state), (2, I kind), (3, Pt 4 0), (9, I y101), (34, B (((gi o_.Rows y101).Kind) == kind))] fun a hS => ?_
     exact ⟨Z, _, (((gi o_.Rows y101).Kind) == kind), hm, hS.sl _, hO, h102⟩
    replace hS := hS.lit (t := 25) kr hb
    replace hm := hm.2 hb
    refine ePb T hS [(1, I state), (2, I kind), (3, Pt 4 0), (9, I y101), (34, B false)] fun a hS => ?_
    exact ⟨Z, _, false, hm, hS.sl _, hO, h102⟩
   rintro a w128 ⟨Z, X127, y103, hm, hS, hO, h104⟩
   unfold VC60_J2 at hm
   refine wcond hS (b := y103) kr (fun hb => ?_) fun hb => ?_
   ·replace hm := hm.1 hb
    refine drawnSX [4] mixed hS ?_
    intro w105 X106 hS hE hD hH
    replace hO := hO.m2 hE
    replace h104 := h104.m1 hE
    refine tkb T [0, 2, 6, 8, 1, 7] [4] hS hH #[true, true, true, false, false, false, true, true, true, false, false, false, false, false, false] 9 [(36, Sl a1 o_.Rows c1), (37, I y101), (42, Sl a1 o_.Rows c1), (43, I y101)] fun a hS => ?_
    obtain ⟨hq, hm⟩ := hm
    refine dindex (e := 76) (k := .i64) T 3 hS kr kr kr (by rfl) kr hH kr kr h104 kr kr hq.1 hq.2 ?_
    intro A107 a h108 hS
    have h108b := h108.here
    refine dfieldA (off := 2) (fsz := 1) (ft := 3) (TF := tI) (y := (gi o_.Rows y101).Next) 4 T hS kr kr kr (by rfl) kr hH kr h108 kr kr kr (fun cs h => Api_Row_f2 h) ?_
    intro A109 a h110 hbl hS
    have h110b := h108b
    rw [← hbl] at h110b
    clear hbl
    refine dload1 T 5 hS kr kr kr (by rfl) kr hH kr h110 h110b rfl kr ?_
    intro v111 a hv hS
    cases hv
    refine tkb T [12] [4] hS hH #[true, true, true, true, true, true, true, true, true, false, false, false, true, false, false] 5 [(6, I ((gi o_.Rows y101).Next)), (42, Sl a1 o_.Rows c1), (43, I y101)] fun a hS => ?_
    obtain ⟨hq, hm⟩ := hm
    refine dindex (e := 76) (k := .i64) T 9 hS kr kr kr (by rfl) kr hH kr kr h104 kr kr hq.1 hq.2 ?_
    intro A112 a h113 hS
    have h113b := h113.here
    refine dfieldA (off := 3) (fsz := 1) (ft := 3) (TF := tI) (y := (gi o_.Rows y101).Result) 10 T hS kr kr kr (by rfl) kr hH kr h113 kr kr kr (fun cs h => Api_Row_f3 h) ?_
    intro A114 a h115 hbl hS
    have h115b := h113b
    rw [← hbl] at h115b
    clear hbl
    refine dload1 T 11 hS kr kr kr (by rfl) kr hH kr h115 h115b rfl kr ?_
    intro v116 a hv hS
    cases hv
    refine tkb T [13, 14] [4] hS hH (tts 15) 0 [(6, I ((gi o_.Rows y101).Next)), (7, I ((gi o_.Rows y101).Result)), (8, B true)] fun a hS => ?_
    refine drawnDone kr ?_
    replace hS := hS.sl ⟨[(6, I ((gi o_.Rows y101).Next)), (7, I ((gi o_.Rows y101).Result)), (8, B true)], []⟩
    refine wret ?_
    exact fin T hS hO (fun c => c) rfl (r := [.int .i64 ((gi o_.Rows y101).Next), .int .i64 ((gi o_.Rows y101).Result), .bool true]) kr (fun X' hM hC => ⟨((gi o_.Rows y101).Next, (gi o_.Rows y101).Result, true), hm, rfl⟩)
   replace hm := hm.2 hb
   refine wskip ?_
   refine region (ePb T hS [(1, I state), (2, I kind), (3, Pt 4 0), (9, I (wR (y101 + 1)))] fun a hS => ?_)
   exact ⟨wR (y101 + 1), ⟨Z, _, hm.1, hS.sl _, hO, h104⟩, hm.2⟩
  replace hm := hm.2 hb
  refine wexit (by rfl) ?_
  exact ⟨Z, _, hm, hS.sl _, hO⟩
 rintro a w132 ⟨Z, X131, hm, hS, hO⟩
 unfold VC60_J1 at hm
 refine rPb T hS [(6, I 0), (7, I 0), (8, B false)] fun a hS => ?_
 refine wret ?_
 exact fin T hS hO (fun c => c) rfl (r := [.int .i64 0, .int .i64 0, .bool false]) kr (fun X' hM hC => ⟨(0, 0, false), hm, rfl⟩)
theorem C60 (v : ∀ (o_ : Api_Object) (state : Int) (kind : Int), VC60 o_ state kind (fun r => r = ref23_Move o_ state kind)) : S60 := by
 intro w X o_ state kind a1 c1   h1
 refine (W60 w X o_ state kind a1 c1   _ (v o_ state kind) h1).mono ?_
 rintro _ _ _ _ ⟨r, rfl, h⟩
 exact h
theorem W72 (k60 : S60) (w0) (X0) (o_ : Api_Object) (state : Int) (kind : Int) (result : Int) (a1) (c1) (Q : Int × Int -> Prop) (hm : VC72 o_ state kind result Q) (h1 : RS tApi_Row w0 X0 a1 o_.Rows c1) :
  Ret Try.prog 72 #[.agg #[.int .i64 o_.States, .int .i64 o_.Kinds, .int .i64 o_.Init, .slice a1 o_.Rows.length c1], .int .i64 state, .int .i64 kind, .int .i64 result] xnone w0 X0 (fun w X' v => ∃ r, Q r /\ v = .tuple #[.int .i64 r.1, .int .i64 r.2]) := by
 unfold VC72 at hm
 replace hm := hm (h1.sm kr)
 refine enter Try.func72 rfl (vals := [.agg #[.int .i64 o_.States, .int .i64 o_.Kinds, .int .i64 o_.Init, .slice a1 o_.Rows.length c1], .int .i64 state, .int .i64 kind, .int .i64 result]) kr ?_
 intro Z a hS hO hM
 replace h1 := h1.m0 hM
 refine rM T hS ⟨[(1, I state), (2, I kind), (3, I result), (4, Pt 5 0)], [(5, (24, (cO o_ a1 c1)))]⟩ fun Z a w105 X106 hS hE hr => ?_
 replace hO := hO.m2 hE
 replace h1 := h1.m1 hE
 clear hE hr
 refine wseq ?_
 refine rPb T hS [(1, I state), (2, I kind), (3, I result), (4, Pt 5 0), (20, B ((decide (state < 0)) || (decide (state ≥ o_.States))))] (sp := [15]) fun a hS => ?_
 refine wcond hS (b := ((decide (state < 0)) || (decide (state ≥ o_.States)))) kr (fun hb => ?_) fun hb => ?_
 ·replace hm := hm.1 hb
  refine rP T hS ⟨[(8, I 0), (9, I 30)], []⟩ fun a hS => ?_
  refine wret ?_
  exact fin T hS hO (fun c => c) rfl (r := [.int .i64 0, .int .i64 30]) kr (fun X' hM hC => ⟨(0, 30), hm, rfl⟩)
 replace hm := hm.2 hb
 refine wskip ?_
 refine regO ?_
 refine oP T hS 3 ⟨[(3, I result), (22, V (.agg #[.int .i64 o_.States, .int .i64 o_.Kinds, .int .i64 o_.Init, .slice a1 o_.Rows.length c1])), (23, I state), (24, I kind)], []⟩ fun a hS => ?_
 refine op1 (call hS kr kr hb60 kr (fun _ _ => rfl) (k60 _ _ o_ state kind a1 c1 h1) ?_)
 intro v101 a w102 X103 hE hp hS
 replace hO := hO.m2 hE
 replace h1 := h1.m1 hE
 obtain ⟨r104, hr⟩ : ∃ r, ref23_Move o_ state kind = r := ⟨_, rfl⟩
 replace hm := hm r104 hr
 rw [hr] at hp
 clear hr
 subst hp
 refine ePb T hS [(3, I result), (10, I r104.1), (11, I r104.2.1), (12, B r104.2.2)] fun a hS => ?_
 refine wseq ?_
 refine rPb T hS [(10, I r104.1), (35, B ((!r104.2.2) || (r104.2.1 != result)))] (sp := [31]) fun a hS => ?_
 refine wcond hS (b := ((!r104.2.2) || (r104.2.1 != result))) kr (fun hb => ?_) fun hb => ?_
 ·replace hm := hm.1 hb
  refine rPb T hS [(8, I 0), (9, I 40)] fun a hS => ?_
  refine wret ?_
  exact fin T hS hO (fun c => c) rfl (r := [.int .i64 0, .int .i64 40]) kr (fun X' hM hC => ⟨(0, 40), hm, rfl⟩)
 replace hm := hm.2 hb
 refine wskip ?_
 refine rPb T hS [(8, I r104.1), (9, I 0)] fun a hS => ?_
 refine wret ?_
 exact fin T hS hO (fun c => c) rfl (r := [.int .i64 r104.1, .int .i64 0]) kr (fun X' hM hC => ⟨(r104.1, 0), hm, rfl⟩)
theorem C72 (k60 : S60) (v : ∀ (o_ : Api_Object) (state : Int) (kind : Int) (result : Int), VC72 o_ state kind result (fun r => r = ref28_Step o_ state kind result)) : S72 := by
 intro w X o_ state kind result a1 c1   h1
 refine (W72 k60 w X o_ state kind result a1 c1   _ (v o_ state kind result) h1).mono ?_
 rintro _ _ _ _ ⟨r, rfl, h⟩
 exact h
theorem W41 (w0) (X0) (o_ : Api_Object) (a1) (c1) (Q : Int × Int -> Prop) (hm : VC41 o_ Q) (h1 : RS tApi_Row w0 X0 a1 o_.Rows c1) :
  Ret Try.prog 41 #[.agg #[.int .i64 o_.States, .int .i64 o_.Kinds, .int .i64 o_.Init, .slice a1 o_.Rows.length c1]] xnone w0 X0 (fun w X' v => ∃ r, Q r /\ v = .tuple #[.int .i64 r.1, .int .i64 r.2]) := by
 unfold VC41 at hm
 replace hm := hm (h1.sm kr)
 refine enter Try.func41 rfl (vals := [.agg #[.int .i64 o_.States, .int .i64 o_.Kinds, .int .i64 o_.Init, .slice a1 o_.Rows.length c1]]) kr ?_
 intro Z a hS hO hM
 replace h1 := h1.m0 hM
 refine rM T hS ⟨[(1, Pt 2 0)], [(2, (24, (cO o_ a1 c1)))]⟩ fun Z a w134 X135 hS hE hr => ?_
 replace hO := hO.m2 hE
 replace h1 := h1.m1 hE
 clear hE hr
 refine wseq ?_
 refine rPb T hS [(1, Pt 2 0), (35, B ((((((decide (o_.States < 1)) || (decide (o_.States > 32))) || (decide (o_.Kinds < 1))) || (decide (o_.Kinds > 64))) || (decide (o_.Init < 0))) || (decide (o_.Init ≥ o_.States))))] (sp := [9, 14, 19, 24, 29]) fun a hS => ?_
 refine wcond hS (b := ((((((decide (o_.States < 1)) || (decide (o_.States > 32))) || (decide (o_.Kinds < 1))) || (decide (o_.Kinds > 64))) || (decide (o_.Init < 0))) || (decide (o_.Init ≥ o_.States)))) kr (fun hb => ?_) fun hb => ?_
 ·replace hm := hm.1 hb
  refine rP T hS ⟨[(2, I (-1)), (3, I 2)], []⟩ fun a hS => ?_
  refine wret ?_
  exact fin T hS hO (fun c => c) rfl (r := [.int .i64 (-1), .int .i64 2]) kr (fun X' hM hC => ⟨((-1), 2), hm, rfl⟩)
 replace hm := hm.2 hb
 refine wskip ?_
 refine wcut (fun a w => ∃ Z X, VC41_J1 o_ Q /\ St Try.f41.ntmps ⟨[(1, Pt 2 0)], [(2, (24, (cO o_ a1 c1)))]⟩ Z a w X /\ Old w0 X0 w X /\ RS tApi_Row w X a1 o_.Rows c1) ?_ ?_
 ·refine rPb T hS [(1, Pt 2 0), (4, I 0)] fun a hS => ?_
  refine wblock ?_
  obtain ⟨I1, μ1, hm0, hm⟩ := hm
  refine wloop (σ := Int) (fun s a w => ∃ Z X, I1 s /\ St Try.f41.ntmps ⟨[(1, Pt 2 0), (4, I s)], [(2, (24, (cO o_ a1 c1)))]⟩ Z a w X /\ Old w0 X0 w X /\ RS tApi_Row w X a1 o_.Rows c1) (fun s => μ1 s) (0) ?_ ?_
  ·exact ⟨Z, _, hm0, hS.sl _, hO, h1⟩
  rintro y102 a w131 ⟨Z, X130, hI, hS, hO, h103⟩
  replace hm := hm y102 hI
  clear hI hm0
  refine wseq ?_
  refine rPb T hS [(1, Pt 2 0), (4, I y102), (40, B (decide (y102 < (lN o_.Rows))))] fun a hS => ?_
  refine wcond hS (b := decide (y102 < (lN o_.Rows))) kr (fun hb => ?_) fun hb => ?_
  ·replace hm := hm.1 hb
   refine wskip (wseq ?_)
   refine wblock ?_
   refine regO ?_
   refine oPb T hS 3 [(1, Pt 2 0), (4, I y102), (44, Sl a1 o_.Rows c1), (45, I y102)] fun a hS => ?_
   obtain ⟨hq, hm⟩ := hm
   refine op1 (index (e := 76) (k := .i64) T hS kr kr kr kr h103 kr kr hq.1 hq.2 ?_)
   intro A104 a h105 hS
   refine op1 (loadA T hS kr kr kr h105 kr kr ?_)
   intro v106 a hv hS
   subst hv
   refine eM T hS ⟨[(1, Pt 2 0), (4, I y102), (5, Pt 6 0)], [(2, (24, (cO o_ a1 c1))), (6, (76, (cR (gi o_.Rows y102))))]⟩ fun Z a w128 X129 hS hE hr => ?_
   replace hO := hO.m2 hE
   replace h103 := h103.m1 hE
   clear hE hr
   refine wseq ?_
   refine rPb T hS [(1, Pt 2 0), (4, I y102), (5, Pt 6 0), (69, B ((((decide (((gi o_.Rows y102).State) < 0)) || (decide (((gi o_.Rows y102).State) ≥ o_.States))) || (decide (((gi o_.Rows y102).Next) < 0))) || (decide (((gi o_.Rows y102).Next) ≥ o_.States))))] (sp := [51, 58, 63]) fun a hS => ?_
   refine wcond hS (b := ((((decide (((gi o_.Rows y102).State) < 0)) || (decide (((gi o_.Rows y102).State) ≥ o_.States))) || (decide (((gi o_.Rows y102).Next) < 0))) || (decide (((gi o_.Rows y102).Next) ≥ o_.States)))) kr (fun hb => ?_) fun hb => ?_
   ·replace hm := hm.1 hb
    refine rP T hS ⟨[(2, I y102), (3, I 30)], []⟩ fun a hS => ?_
    refine wret ?_
    exact fin T hS hO (fun c => c) rfl (r := [.int .i64 y102, .int .i64 30]) kr (fun X' hM hC => ⟨(y102, 30), hm, rfl⟩)
   replace hm := hm.2 hb
   refine wskip (wseq ?_)
   refine rPb T hS [(1, Pt 2 0), (4, I y102), (5, Pt 6 0), (80, B ((decide (((gi o_.Rows y102).Kind) < 0)) || (decide (((gi o_.Rows y102).Kind) ≥ o_.Kinds))))] (sp := [74]) fun a hS => ?_
   refine wcond hS (b := ((decide (((gi o_.Rows y102).Kind) < 0)) || (decide (((gi o_.Rows y102).Kind) ≥ o_.Kinds)))) kr (fun hb => ?_) fun hb => ?_
   ·replace hm := hm.1 hb
    refine rP T hS ⟨[(2, I y102), (3, I 31)], []⟩ fun a hS => ?_
    refine wret ?_
    exact fin T hS hO (fun c => c) rfl (r := [.int .i64 y102, .int .i64 31]) kr (fun X' hM hC => ⟨(y102, 31), hm, rfl⟩)
   replace hm := hm.2 hb
   refine wskip (wseq ?_)
   refine rPb T hS [(1, Pt 2 0), (4, I y102), (5, Pt 6 0), (89, B ((decide (((gi o_.Rows y102).Result) < 0)) || (decide (((gi o_.Rows y102).Result) > 1000000))))] (sp := [85]) fun a hS => ?_
   refine wcond hS (b := ((decide (((gi o_.Rows y102).Result) < 0)) || (decide (((gi o_.Rows y102).Result) > 1000000)))) kr (fun hb => ?_) fun hb => ?_
   ·replace hm := hm.1 hb
    refine rP T hS ⟨[(2, I y102), (3, I 7)], []⟩ fun a hS => ?_
    refine wret ?_
    exact fin T hS hO (fun c => c) rfl (r := [.int .i64 y102, .int .i64 7]) kr (fun X' hM hC => ⟨(y102, 7), hm, rfl⟩)
   replace hm := hm.2 hb
   refine wskip ?_
   refine wcut (fun a w => ∃ (Z : Nat -> Nat) (X : Nat -> Nat) (y107 : Bool), VC41_J2 Q I1 μ1 y102 y107 /\ St Try.f41.ntmps ⟨[(1, Pt 2 0), (4, I y102), (128, B y107)], [(2, (24, (cO o_ a1 c1)))]⟩ Z a w X /\ Old w0 X0 w X /\ RS tApi_Row w X a1 o_.Rows c1) ?_ ?_
   ·refine drawnX [2, 6] mixed hS ?_
    intro w109 X110 hS hE hD hH
    replace hO := hO.m2 hE
    replace h103 := h103.m1 hE
    refine tkc T [0, 1, 2] [2, 6] hS hH #[true, true, true, false, false, false, false, false, false, false, false, false, false, false, false, false, false, false, false, false, false, false, false, false, false, false, false, false, false, false, false, false, false, false, false, false, false, false] 35 [(1, Pt 2 0), (4, I y102), (5, Pt 6 0), (93, B (decide (y102 > 0)))] fun a hS => ?_
    rcases bft (decide (y102 > 0)) with hb | hb
    ·replace hS := hS.lit (t := 93) kr hb
     replace hm := hm.1 hb
     refine tkc T [3, 5, 10, 4, 6, 11] [2, 6] hS hH #[true, true, true, true, true, true, true, false, false, false, true, true, false, false, false, false, false, false, false, false, false, false, false, false, false, false, false, false, false, false, false, false, false, false, false, false, false, false] 29 [(1, Pt 2 0), (4, I y102), (5, Pt 6 0), (93, B true), (95, Sl a1 o_.Rows c1), (97, I (wR (y102 - 1))), (102, I ((gi o_.Rows y102).State))] fun a hS => ?_
     obtain ⟨hq, hm⟩ := hm
     refine dindex (e := 76) (k := .i64) T 7 hS kr kr kr (by rfl) kr hH kr kr h103 kr kr hq.1 hq.2 ?_
     intro A111 a h112 hS
     have h112b := h112.here
     refine dfieldA (off := 0) (fsz := 1) (ft := 3) (TF := tI) (y := (gi o_.Rows (wR (y102 - 1))).State) 8 T hS kr kr kr (by rfl) kr hH kr h112 kr kr kr (fun cs h => Api_Row_f0 h) ?_
     intro A113 a h114 hbl hS
     have h114b := h112b
     rw [← hbl] at h114b
     clear hbl
     refine dload1 T 9 hS kr kr kr (by rfl) kr hH kr h114 h114b rfl kr ?_
     intro v115 a hv hS
     cases hv
     refine tkc T [12, 13] [2, 6] hS hH #[true, true, true, true, true, true, true, true, true, true, true, true, true, true, false, false, false, false, false, false, false, false, false, false, false, false, false, false, false, false, false, false, false, false, false, false, false, false] 24 [(1, Pt 2 0), (4, I y102), (5, Pt 6 0), (93, B true), (104, B (decide (((gi o_.Rows (wR (y102 - 1))).State) > ((gi o_.Rows y102).State))))] fun a hS => ?_
     rcases bft (decide (((gi o_.Rows (wR (y102 - 1))).State) > ((gi o_.Rows y102).State))) with hb | hb
     ·replace hS := hS.lit (t := 104) kr hb
      replace hm := hm.1 hb
      refine tkc T [14, 16, 21, 15, 17, 22, 18, 19, 20, 23, 24, 25, 27, 32, 26, 28, 33, 29, 30, 31, 34, 35, 36, 37] [2, 6] hS hH (tts 38) 0 [(1, Pt 2 0), (4, I y102), (128, B true)] fun a hS => ?_
      refine drawnDone kr ?_
      replace hS := hS.sl ⟨[(1, Pt 2 0), (4, I y102), (128, B true)], [(2, (24, (cO o_ a1 c1)))]⟩
      exact ⟨Z, _, true, hm, hS.sl _, hO, h103⟩
     replace hS := hS.lit (t := 104) kr hb
     replace hm := hm.2 hb
     refine tkc T [14, 16, 21, 15, 17, 22] [2, 6] hS hH #[true, true, true, true, true, true, true, true, true, true, true, true, true, true, true, true, true, true, false, false, false, true, true, false, false, false, false, false, false, false, false, false, false, false, false, false, false, false] 18 [(1, Pt 2 0), (4, I y102), (5, Pt 6 0), (93, B true), (104, B false), (106, Sl a1 o_.Rows c1), (108, I (wR (y102 - 1))), (113, I ((gi o_.Rows y102).State))] fun a hS => ?_
     obtain ⟨hq, hm⟩ := hm
     refine dindex (e := 76) (k := .i64) T 18 hS kr kr kr (by rfl) kr hH kr kr h103 kr kr hq.1 hq.2 ?_
     intro A116 a h117 hS
     have h117b := h117.here
     refine dfieldA (off := 0) (fsz := 1) (ft := 3) (TF := tI) (y := (gi o_.Rows (wR (y102 - 1))).State) 19 T hS kr kr kr (by rfl) kr hH kr h117 kr kr kr (fun cs h => Api_Row_f0 h) ?_
     intro A118 a h119 hbl hS
     have h119b := h117b
     rw [← hbl] at h119b
     clear hbl
     refine dload1 T 20 hS kr kr kr (by rfl) kr hH kr h119 h119b rfl kr ?_
     intro v120 a hv hS
     cases hv
     refine tkc T [23, 24] [2, 6] hS hH #[true, true, true, true, true, true, true, true, true, true, true, true, true, true, true, true, true, true, true, true, true, true, true, true, true, false, false, false, false, false, false, false, false, false, false, false, false, false] 13 [(1, Pt 2 0), (4, I y102), (5, Pt 6 0), (93, B true), (104, B false), (115, B (((gi o_.Rows (wR (y102 - 1))).State) == ((gi o_.Rows y102).State)))] fun a hS => ?_
     rcases bft (((gi o_.Rows (wR (y102 - 1))).State) == ((gi o_.Rows y102).State)) with hb | hb
     ·replace hS := hS.lit (t := 115) kr hb
      replace hm := hm.1 hb
      refine tkc T [25, 27, 32, 26, 28, 33] [2, 6] hS hH #[true, true, true, true, true, true, true, true, true, true, true, true, true, true, true, true, true, true, true, true, true, true, true, true, true, true, true, true, true, false, false, false, true, true, false, false, false, false] 7 [(1, Pt 2 0), (4, I y102), (93, B true), (104, B false), (115, B true), (117, Sl a1 o_.Rows c1), (119, I (wR (y102 - 1))), (124, I ((gi o_.Rows y102).Kind))] fun a hS => ?_
      obtain ⟨hq, hm⟩ := hm
      refine dindex (e := 76) (k := .i64) T 29 hS kr kr kr (by rfl) kr hH kr kr h103 kr kr hq.1 hq.2 ?_
      intro A121 a h122 hS
      have h122b := h122.here
      refine dfieldA (off := 1) (fsz := 1) (ft := 3) (TF := tI) (y := (gi o_.Rows (wR (y102 - 1))).Kind) 30 T hS kr kr kr (by rfl) kr hH kr h122 kr kr kr (fun cs h => Api_Row_f1 h) ?_
      intro A123 a h124 hbl hS
      have h124b := h122b
      rw [← hbl] at h124b
      clear hbl
      refine dload1 T 31 hS kr kr kr (by rfl) kr hH kr h124 h124b rfl kr ?_
      intro v125 a hv hS
      cases hv
      refine tkc T [34, 35, 36, 37] [2, 6] hS hH (tts 38) 0 [(1, Pt 2 0), (4, I y102), (128, B (decide (((gi o_.Rows (wR (y102 - 1))).Kind) ≥ ((gi o_.Rows y102).Kind))))] fun a hS => ?_
      refine drawnDone kr ?_
      replace hS := hS.sl ⟨[(1, Pt 2 0), (4, I y102), (128, B (decide (((gi o_.Rows (wR (y102 - 1))).Kind) ≥ ((gi o_.Rows y102).Kind))))], [(2, (24, (cO o_ a1 c1)))]⟩
      exact ⟨Z, _, decide (((gi o_.Rows (wR (y102 - 1))).Kind) ≥ ((gi o_.Rows y102).Kind)), hm, hS.sl _, hO, h103⟩
     replace hS := hS.lit (t := 115) kr hb
     replace hm := hm.2 hb
     refine tkc T [25, 27, 32, 26, 28, 33, 29, 30, 31, 34, 35, 36, 37] [2, 6] hS hH (tts 38) 0 [(1, Pt 2 0), (4, I y102), (128, B false)] fun a hS => ?_
     refine drawnDone kr ?_
     replace hS := hS.sl ⟨[(1, Pt 2 0), (4, I y102), (128, B false)], [(2, (24, (cO o_ a1 c1)))]⟩
     exact ⟨Z, _, false, hm, hS.sl _, hO, h103⟩
    replace hS := hS.lit (t := 93) kr hb
    replace hm := hm.2 hb
    refine tkc T [3, 5, 10, 4, 6, 11, 7, 8, 9, 12, 13, 14, 16, 21, 15, 17, 22, 18, 19, 20, 23, 24, 25, 27, 32, 26, 28, 33, 29, 30, 31, 34, 35, 36, 37] [2, 6] hS hH (tts 38) 0 [(1, Pt 2 0), (4, I y102), (128, B false)] fun a hS => ?_
    refine drawnDone kr ?_
    replace hS := hS.sl ⟨[(1, Pt 2 0), (4, I y102), (128, B false)], [(2, (24, (cO o_ a1 c1)))]⟩
    exact ⟨Z, _, false, hm, hS.sl _, hO, h103⟩
   rintro a w127 ⟨Z, X126, y107, hm, hS, hO, h108⟩
   unfold VC41_J2 at hm
   refine wcond hS (b := y107) kr (fun hb => ?_) fun hb => ?_
   ·replace hm := hm.1 hb
    refine rP T hS ⟨[(2, I y102), (3, I 32)], []⟩ fun a hS => ?_
    refine wret ?_
    exact fin T hS hO (fun c => c) rfl (r := [.int .i64 y102, .int .i64 32]) kr (fun X' hM hC => ⟨(y102, 32), hm, rfl⟩)
   replace hm := hm.2 hb
   refine wskip ?_
   refine region (ePb T hS [(1, Pt 2 0), (4, I (wR (y102 + 1)))] fun a hS => ?_)
   exact ⟨wR (y102 + 1), ⟨Z, _, hm.1, hS.sl _, hO, h108⟩, hm.2⟩
  replace hm := hm.2 hb
  refine wexit (by rfl) ?_
  exact ⟨Z, _, hm, hS.sl _, hO, h103⟩
 rintro a w133 ⟨Z, X132, hm, hS, hO, h101⟩
 unfold VC41_J1 at hm
 refine rP T hS ⟨[(2, I (lN o_.Rows)), (3, I 0)], []⟩ fun a hS => ?_
 refine wret ?_
 exact fin T hS hO (fun c => c) rfl (r := [.int .i64 (lN o_.Rows), .int .i64 0]) kr (fun X' hM hC => ⟨((lN o_.Rows), 0), hm, rfl⟩)
theorem C41 (v : ∀ (o_ : Api_Object), VC41 o_ (fun r => r = ref23_Check o_)) : S41 := by
 intro w X o_ a1 c1   h1
 refine (W41 w X o_ a1 c1   _ (v o_) h1).mono ?_
 rintro _ _ _ _ ⟨r, rfl, h⟩
 exact h
theorem W59 (k41 : S41) (k72 : S72) (w0) (X0) (o_ : Api_Object) (l_ : List Api_Oper) (state : Int) (picks : List Api_Pick) (a1) (c1) (a2) (c2) (a3) (c3) (Q : Int × Int × Int -> Prop) (hm : VC59 o_ l_ state picks Q) (h1 : RS tApi_Row w0 X0 a1 o_.Rows c1) (h2 : RS tApi_Oper w0 X0 a2 l_ c2) (h3 : RS tApi_Pick w0 X0 a3 picks c3) :
  Ret Try.prog 59 #[.agg #[.int .i64 o_.States, .int .i64 o_.Kinds, .int .i64 o_.Init, .slice a1 o_.Rows.length c1], .slice a2 l_.length c2, .int .i64 state, .slice a3 picks.length c3] xnone w0 X0 (fun w X' v => ∃ r, Q r /\ v = .tuple #[.int .i64 r.1, .int .i64 r.2.1, .int .i64 r.2.2]) := by
 unfold VC59 at hm
 replace hm := hm (h1.sm kr)
 replace hm := hm (h2.sm kr)
 replace hm := hm (h3.sm kr)
 refine enter Try.func59 rfl (vals := [.agg #[.int .i64 o_.States, .int .i64 o_.Kinds, .int .i64 o_.Init, .slice a1 o_.Rows.length c1], .slice a2 l_.length c2, .int .i64 state, .slice a3 picks.length c3]) kr ?_
 intro Z a hS hO hM
 replace h1 := h1.m0 hM
 replace h2 := h2.m0 hM
 replace h3 := h3.m0 hM
 refine rM T hS ⟨[(1, Sl a2 l_ c2), (2, I state), (3, Sl a3 picks c3), (4, Pt 5 0)], [(5, (24, (cO o_ a1 c1)))]⟩ fun Z a w168 X169 hS hE hr => ?_
 replace hO := hO.m2 hE
 replace h1 := h1.m1 hE
 replace h2 := h2.m1 hE
 replace h3 := h3.m1 hE
 clear hE hr
 refine regO ?_
 refine oPb T hS 1 [(1, Sl a2 l_ c2), (2, I state), (3, Sl a3 picks c3), (4, Pt 5 0), (19, V (.agg #[.int .i64 o_.States, .int .i64 o_.Kinds, .int .i64 o_.Init, .slice a1 o_.Rows.length c1]))] fun a hS => ?_
 refine op1 (call hS kr kr hb41 kr (fun _ _ => rfl) (k41 _ _ o_ a1 c1 h1) ?_)
 intro v101 a w102 X103 hE hp hS
 replace hO := hO.m2 hE
 replace h1 := h1.m1 hE
 replace h2 := h2.m1 hE
 replace h3 := h3.m1 hE
 obtain ⟨r104, hr⟩ : ∃ r, ref23_Check o_ = r := ⟨_, rfl⟩
 replace hm := hm r104 hr
 rw [hr] at hp
 clear hr
 subst hp
 refine ePb T hS [(1, Sl a2 l_ c2), (2, I state), (3, Sl a3 picks c3), (4, Pt 5 0), (12, I r104.2)] fun a hS => ?_
 refine wseq ?_
 refine rPb T hS [(1, Sl a2 l_ c2), (2, I state), (3, Sl a3 picks c3), (4, Pt 5 0), (24, B (r104.2 != 0))] fun a hS => ?_
 refine wcond hS (b := (r104.2 != 0)) kr (fun hb => ?_) fun hb => ?_
 ·replace hm := hm.1 hb
  refine rP T hS ⟨[(8, I 0), (9, I (-1)), (10, I 2)], []⟩ fun a hS => ?_
  refine wret ?_
  exact fin T hS hO (fun c => c) rfl (r := [.int .i64 0, .int .i64 (-1), .int .i64 2]) kr (fun X' hM hC => ⟨(0, (-1), 2), hm, rfl⟩)
 replace hm := hm.2 hb
 refine wskip (wseq ?_)
 refine rPb T hS [(1, Sl a2 l_ c2), (2, I state), (3, Sl a3 picks c3), (4, Pt 5 0), (32, B ((decide (state < 0)) || (decide (state ≥ o_.States))))] (sp := [27]) fun a hS => ?_
 refine wcond hS (b := ((decide (state < 0)) || (decide (state ≥ o_.States)))) kr (fun hb => ?_) fun hb => ?_
 ·replace hm := hm.1 hb
  refine rP T hS ⟨[(8, I 0), (9, I (-1)), (10, I 30)], []⟩ fun a hS => ?_
  refine wret ?_
  exact fin T hS hO (fun c => c) rfl (r := [.int .i64 0, .int .i64 (-1), .int .i64 30]) kr (fun X' hM hC => ⟨(0, (-1), 30), hm, rfl⟩)
 replace hm := hm.2 hb
 refine wskip ?_
 refine wcut (fun a w => ∃ (Z : Nat -> Nat) (X : Nat -> Nat) (y105 : Int), VC59_J1 picks Q y105 /\ St Try.f59.ntmps ⟨[(2, I y105), (3, Sl a3 picks c3)], []⟩ Z a w X /\ Old w0 X0 w X /\ RS tApi_Pick w X a3 picks c3) ?_ ?_
 ·refine rPb T hS [(1, Sl a2 l_ c2), (2, I state), (3, Sl a3 picks c3), (4, Pt 5 0), (13, I 0)] fun a hS => ?_
  refine wblock ?_
  obtain ⟨I1, μ1, hm0, hm⟩ := hm
  refine wloop (σ := Int × Int) (fun s a w => ∃ Z X, I1 s.1 s.2 /\ St Try.f59.ntmps ⟨[(1, Sl a2 l_ c2), (2, I s.1), (3, Sl a3 picks c3), (4, Pt 5 0), (13, I s.2)], [(5, (24, (cO o_ a1 c1)))]⟩ Z a w X /\ Old w0 X0 w X /\ RS tApi_Oper w X a2 l_ c2 /\ RS tApi_Pick w X a3 picks c3 /\ RS tApi_Row w X a1 o_.Rows c1) (fun s => μ1 s.1 s.2) (⟨state, 0⟩) ?_ ?_
  ·exact ⟨Z, _, hm0, hS.sl _, hO, h2, h3, h1⟩
  rintro ⟨y108, y110⟩ a w165 ⟨Z, X164, hI, hS, hO, h107, h109, h111⟩
  replace hm := hm y108 y110 hI
  clear hI hm0
  refine wseq ?_
  refine rPb T hS [(1, Sl a2 l_ c2), (2, I y108), (3, Sl a3 picks c3), (4, Pt 5 0), (13, I y110), (36, B (decide (y110 < (lN picks))))] fun a hS => ?_
  refine wcond hS (b := decide (y110 < (lN picks))) kr (fun hb => ?_) fun hb => ?_
  ·replace hm := hm.1 hb
   refine wskip (wseq ?_)
   refine wblock ?_
   refine regO ?_
   refine oPb T hS 2 [(1, Sl a2 l_ c2), (2, I y108), (3, Sl a3 picks c3), (4, Pt 5 0), (13, I y110), (39, Sl a3 picks c3), (40, I y110)] fun a hS => ?_
   obtain ⟨hq, hm⟩ := hm
   refine op1 (index (e := 109) (k := .i64) T hS kr kr kr kr h109 kr kr hq.1 hq.2 ?_)
   intro A112 a h113 hS
   refine op1 (loadA T hS kr kr kr h113 kr kr ?_)
   intro v114 a hv hS
   subst hv
   refine eM T hS ⟨[(1, Sl a2 l_ c2), (2, I y108), (3, Sl a3 picks c3), (4, Pt 5 0), (13, I y110), (14, Pt 15 0)], [(5, (24, (cO o_ a1 c1))), (15, (109, (cK (gi picks y110))))]⟩ fun Z a w162 X163 hS hE hr => ?_
   replace hO := hO.m2 hE
   replace h107 := h107.m1 hE
   replace h109 := h109.m1 hE
   replace h111 := h111.m1 hE
   clear hE hr
   refine wseq ?_
   refine rPb T hS [(1, Sl a2 l_ c2), (2, I y108), (3, Sl a3 picks c3), (4, Pt 5 0), (13, I y110), (14, Pt 15 0), (52, B ((decide (((gi picks y110).Oper) < 0)) || (decide (((gi picks y110).Oper) ≥ (lN l_)))))] (sp := [46]) fun a hS => ?_
   refine wcond hS (b := ((decide (((gi picks y110).Oper) < 0)) || (decide (((gi picks y110).Oper) ≥ (lN l_))))) kr (fun hb => ?_) fun hb => ?_
   ·replace hm := hm.1 hb
    refine rP T hS ⟨[(8, I 0), (9, I y110), (10, I 2)], []⟩ fun a hS => ?_
    refine wret ?_
    exact fin T hS hO (fun c => c) rfl (r := [.int .i64 0, .int .i64 y110, .int .i64 2]) kr (fun X' hM hC => ⟨(0, y110, 2), hm, rfl⟩)
   replace hm := hm.2 hb
   refine wskip ?_
   refine wcut (fun a w => ∃ Z X, VC59_J2 o_ l_ picks Q I1 μ1 y108 y110 /\ St Try.f59.ntmps ⟨[(1, Sl a2 l_ c2), (2, I y108), (3, Sl a3 picks c3), (4, Pt 5 0), (13, I y110), (14, Pt 15 0)], [(5, (24, (cO o_ a1 c1))), (15, (109, (cK (gi picks y110))))]⟩ Z a w X /\ Old w0 X0 w X /\ RS tApi_Oper w X a2 l_ c2 /\ RS tApi_Pick w X a3 picks c3 /\ RS tApi_Row w X a1 o_.Rows c1) ?_ ?_
   ·refine rPb T hS [(1, Sl a2 l_ c2), (2, I y108), (3, Sl a3 picks c3), (4, Pt 5 0), (13, I y110), (14, Pt 15 0), (15, I 0)] fun a hS => ?_
    refine wblock ?_
    obtain ⟨I2, μ2, hm0, hm⟩ := hm
    refine wloop (σ := Int) (fun s a w => ∃ Z X, I2 s /\ St Try.f59.ntmps ⟨[(1, Sl a2 l_ c2), (2, I y108), (3, Sl a3 picks c3), (4, Pt 5 0), (13, I y110), (14, Pt 15 0), (15, I s)], [(5, (24, (cO o_ a1 c1))), (15, (109, (cK (gi picks y110))))]⟩ Z a w X /\ Old w0 X0 w X /\ RS tApi_Oper w X a2 l_ c2 /\ RS tApi_Pick w X a3 picks c3 /\ RS tApi_Row w X a1 o_.Rows c1) (fun s => μ2 s) (0) ?_ ?_
    ·exact ⟨Z, _, hm0, hS.sl _, hO, h107, h109, h111⟩
    rintro y149 a w159 ⟨Z, X158, hI, hS, hO, h147, h148, h150⟩
    replace hm := hm y149 hI
    clear hI hm0
    refine wseq ?_
    refine rPb T hS [(1, Sl a2 l_ c2), (2, I y108), (3, Sl a3 picks c3), (4, Pt 5 0), (13, I y110), (14, Pt 15 0), (15, I y149), (56, B (decide (y149 < y110)))] fun a hS => ?_
    refine wcond hS (b := decide (y149 < y110)) kr (fun hb => ?_) fun hb => ?_
    ·replace hm := hm.1 hb
     refine wskip (wseq ?_)
     refine wblock ?_
     refine drawnSX [5, 15] mixed hS ?_
     intro w151 X152 hS hE hD hH
     replace hO := hO.m2 hE
     replace h147 := h147.m1 hE
     replace h148 := h148.m1 hE
     replace h150 := h150.m1 hE
     refine tkb T [0, 1, 5, 6] [5, 15] hS hH #[true, true, false, false, false, true, true, false] 4 [(1, Sl a2 l_ c2), (2, I y108), (3, Sl a3 picks c3), (4, Pt 5 0), (13, I y110), (14, Pt 15 0), (15, I y149), (59, Sl a3 picks c3), (60, I y149), (65, I ((gi picks y110).Oper))] fun a hS => ?_
     obtain ⟨hq, hm⟩ := hm
     refine dindex (e := 109) (k := .i64) T 2 hS kr kr kr (by rfl) kr hH kr kr h148 kr kr hq.1 hq.2 ?_
     intro A153 a h154 hS
     have h154b := h154.here
     refine dfieldA (off := 0) (fsz := 1) (ft := 3) (TF := tI) (y := (gi picks y149).Oper) 3 T hS kr kr kr (by rfl) kr hH kr h154 kr kr kr (fun cs h => Api_Pick_f0 h) ?_
     intro A155 a h156 hbl hS
     have h156b := h154b
     rw [← hbl] at h156b
     clear hbl
     refine dload1 T 4 hS kr kr kr (by rfl) kr hH kr h156 h156b rfl kr ?_
     intro v157 a hv hS
     cases hv
     refine tkb T [7] [5, 15] hS hH (tts 8) 0 [(1, Sl a2 l_ c2), (2, I y108), (3, Sl a3 picks c3), (4, Pt 5 0), (13, I y110), (14, Pt 15 0), (15, I y149), (66, B (((gi picks y149).Oper) == ((gi picks y110).Oper)))] fun a hS => ?_
     refine drawnDone kr ?_
     replace hS := hS.slb [(1, Sl a2 l_ c2), (2, I y108), (3, Sl a3 picks c3), (4, Pt 5 0), (13, I y110), (14, Pt 15 0), (15, I y149), (66, B (((gi picks y149).Oper) == ((gi picks y110).Oper)))]
     refine wcond hS (b := (((gi picks y149).Oper) == ((gi picks y110).Oper))) kr (fun hb => ?_) fun hb => ?_
     ·replace hm := hm.1 hb
      refine rP T hS ⟨[(8, I 0), (9, I y110), (10, I 21)], []⟩ fun a hS => ?_
      refine wret ?_
      exact fin T hS hO (fun c => c) rfl (r := [.int .i64 0, .int .i64 y110, .int .i64 21]) kr (fun X' hM hC => ⟨(0, y110, 21), hm, rfl⟩)
     replace hm := hm.2 hb
     refine wskip ?_
     refine region (ePb T hS [(1, Sl a2 l_ c2), (2, I y108), (3, Sl a3 picks c3), (4, Pt 5 0), (13, I y110), (14, Pt 15 0), (15, I (wR (y149 + 1)))] fun a hS => ?_)
     exact ⟨wR (y149 + 1), ⟨Z, _, hm.1, hS.sl _, hO, h147, h148, h150⟩, hm.2⟩
    replace hm := hm.2 hb
    refine wexit (by rfl) ?_
    exact ⟨Z, _, hm, hS.sl _, hO, h147, h148, h150⟩
   rintro a w161 ⟨Z, X160, hm, hS, hO, h115, h116, h117⟩
   unfold VC59_J2 at hm
   refine drawnSX [5, 15] mixed hS ?_
   intro w118 X119 hS hE hD hH
   replace hO := hO.m2 hE
   replace h115 := h115.m1 hE
   replace h116 := h116.m1 hE
   replace h117 := h117.m1 hE
   refine tkb T [0, 1, 2, 3, 8, 4, 9] [5, 15] hS hH #[true, true, true, true, true, false, false, false, true, true, false, false, false, false, false, false] 9 [(1, Sl a2 l_ c2), (3, Sl a3 picks c3), (4, Pt 5 0), (13, I y110), (14, Pt 15 0), (69, V (.agg #[.int .i64 o_.States, .int .i64 o_.Kinds, .int .i64 o_.Init, .slice a1 o_.Rows.length c1])), (70, I y108), (71, Sl a2 l_ c2), (73, I ((gi picks y110).Oper)), (78, I ((gi picks y110).Result))] fun a hS => ?_
   obtain ⟨hq, hm⟩ := hm
   refine dindex (e := 61) (k := .i64) T 5 hS kr kr kr (by rfl) kr hH kr kr h115 kr kr hq.1 hq.2 ?_
   intro A120 a h121 hS
   have h121b := h121.here
   refine dfieldA (off := 1) (fsz := 1) (ft := 3) (TF := tI) (y := (gi l_ ((gi picks y110).Oper)).Kind) 6 T hS kr kr kr (by rfl) kr hH kr h121 kr kr kr (fun cs h => Api_Oper_f1 h) ?_
   intro A122 a h123 hbl hS
   have h123b := h121b
   rw [← hbl] at h123b
   clear hbl
   refine dload1 T 7 hS kr kr kr (by rfl) kr hH kr h123 h123b rfl kr ?_
   intro v124 a hv hS
   cases hv
   refine only 10 kr (by rfl) (call hS kr kr hb72 kr (fun _ _ => rfl) (k72 _ _ o_ y108 ((gi l_ ((gi picks y110).Oper)).Kind) ((gi picks y110).Result) a1 c1 h117) ?_)
   intro v125 a w126 X127 hE hp hS
   replace hO := hO.m2 hE
   replace hD := hD.ev hE rfl
   replace h115 := h115.m1 hE
   replace h116 := h116.m1 hE
   replace h117 := h117.m1 hE
   replace h121 := h121.m1 hE
   replace h123 := h123.m1 hE
   obtain ⟨r128, hr⟩ : ∃ r, ref28_Step o_ y108 ((gi l_ ((gi picks y110).Oper)).Kind) ((gi picks y110).Result) = r := ⟨_, rfl⟩
   replace hm := hm r128 hr
   rw [hr] at hp
   clear hr
   subst hp
   replace hS := hS.slb [(1, Sl a2 l_ c2), (3, Sl a3 picks c3), (4, Pt 5 0), (13, I y110), (14, Pt 15 0), (69, V (.agg #[.int .i64 o_.States, .int .i64 o_.Kinds, .int .i64 o_.Init, .slice a1 o_.Rows.length c1])), (70, I y108), (71, Sl a2 l_ c2), (73, I ((gi picks y110).Oper)), (78, I ((gi picks y110).Result)), (74, V (.pointer (some A120))), (75, V (.pointer (some A122))), (76, I ((gi l_ ((gi picks y110).Oper)).Kind)), (79, V (.tuple #[.int .i64 r128.1, .int .i64 r128.2]))]
   refine andH (Hold.of hS (bks := [5, 15]) kr hD) ?_
   intro hH
   refine tkb T [11, 12, 13, 14, 15] [5, 15] hS hH (tts 16) 0 [(1, Sl a2 l_ c2), (3, Sl a3 picks c3), (4, Pt 5 0), (13, I y110), (14, Pt 15 0), (16, I r128.1), (17, I r128.2)] fun a hS => ?_
   refine drawnDone kr ?_
   replace hS := hS.slb [(1, Sl a2 l_ c2), (3, Sl a3 picks c3), (4, Pt 5 0), (13, I y110), (14, Pt 15 0), (16, I r128.1), (17, I r128.2)]
   refine wseq ?_
   refine rPb T hS [(1, Sl a2 l_ c2), (3, Sl a3 picks c3), (4, Pt 5 0), (13, I y110), (14, Pt 15 0), (16, I r128.1), (17, I r128.2), (83, B (r128.2 != 0))] fun a hS => ?_
   refine wcond hS (b := (r128.2 != 0)) kr (fun hb => ?_) fun hb => ?_
   ·replace hm := hm.1 hb
    refine rP T hS ⟨[(8, I 0), (9, I y110), (10, I r128.2)], []⟩ fun a hS => ?_
    refine wret ?_
    exact fin T hS hO (fun c => c) rfl (r := [.int .i64 0, .int .i64 y110, .int .i64 r128.2]) kr (fun X' hM hC => ⟨(0, y110, r128.2), hm, rfl⟩)
   replace hm := hm.2 hb
   refine wskip (wseq ?_)
   refine wcut (fun a w => ∃ (Z : Nat -> Nat) (X : Nat -> Nat) (y131 : Bool), VC59_J3 Q I1 μ1 y108 y110 r128 y131 /\ St Try.f59.ntmps ⟨[(1, Sl a2 l_ c2), (3, Sl a3 picks c3), (4, Pt 5 0), (13, I y110), (16, I r128.1), (103, B y131)], [(5, (24, (cO o_ a1 c1)))]⟩ Z a w X /\ Old w0 X0 w X /\ RS tApi_Oper w X a2 l_ c2 /\ RS tApi_Pick w X a3 picks c3 /\ RS tApi_Row w X a1 o_.Rows c1) ?_ ?_
   ·refine drawnX [5, 15] mixed hS ?_
    intro w133 X134 hS hE hD hH
    replace hO := hO.m2 hE
    replace h115 := h115.m1 hE
    replace h116 := h116.m1 hE
    replace h117 := h117.m1 hE
    refine tkb T [0, 1, 2] [5, 15] hS hH #[true, true, true, false, false, false, false, false, false, false, false, false, false, false, false, false, false, false] 15 [(1, Sl a2 l_ c2), (3, Sl a3 picks c3), (4, Pt 5 0), (13, I y110), (14, Pt 15 0), (16, I r128.1), (86, Sl a2 l_ c2), (88, I ((gi picks y110).Oper))] fun a hS => ?_
    obtain ⟨hq, hm⟩ := hm
    refine dindex (e := 61) (k := .i64) T 3 hS kr kr kr (by rfl) kr hH kr kr h115 kr kr hq.1 hq.2 ?_
    intro A135 a h136 hS
    have h136b := h136.here
    refine dfieldA (off := 3) (fsz := 1) (ft := 3) (TF := tI) (y := (gi l_ ((gi picks y110).Oper)).End) 4 T hS kr kr kr (by rfl) kr hH kr h136 kr kr kr (fun cs h => Api_Oper_f3 h) ?_
    intro A137 a h138 hbl hS
    have h138b := h136b
    rw [← hbl] at h138b
    clear hbl
    refine dload1 T 5 hS kr kr kr (by rfl) kr hH kr h138 h138b rfl kr ?_
    intro v139 a hv hS
    cases hv
    refine tkb T [6, 7] [5, 15] hS hH #[true, true, true, true, true, true, true, true, false, false, false, false, false, false, false, false, false, false] 10 [(1, Sl a2 l_ c2), (3, Sl a3 picks c3), (4, Pt 5 0), (13, I y110), (14, Pt 15 0), (16, I r128.1), (93, B (((gi l_ ((gi picks y110).Oper)).End) != (-1)))] fun a hS => ?_
    rcases bft (((gi l_ ((gi picks y110).Oper)).End) != (-1)) with hb | hb
    ·replace hS := hS.lit (t := 93) kr hb
     replace hm := hm.1 hb
     refine tkb T [8, 9, 14, 10, 15] [5, 15] hS hH #[true, true, true, true, true, true, true, true, true, true, true, false, false, false, true, true, false, false] 5 [(1, Sl a2 l_ c2), (3, Sl a3 picks c3), (4, Pt 5 0), (13, I y110), (16, I r128.1), (93, B true), (94, Sl a2 l_ c2), (96, I ((gi picks y110).Oper)), (101, I ((gi picks y110).Result))] fun a hS => ?_
     obtain ⟨hq, hm⟩ := hm
     refine dindex (e := 61) (k := .i64) T 11 hS kr kr kr (by rfl) kr hH kr kr h115 kr kr hq.1 hq.2 ?_
     intro A140 a h141 hS
     have h141b := h141.here
     refine dfieldA (off := 4) (fsz := 1) (ft := 3) (TF := tI) (y := (gi l_ ((gi picks y110).Oper)).Result) 12 T hS kr kr kr (by rfl) kr hH kr h141 kr kr kr (fun cs h => Api_Oper_f4 h) ?_
     intro A142 a h143 hbl hS
     have h143b := h141b
     rw [← hbl] at h143b
     clear hbl
     refine dload1 T 13 hS kr kr kr (by rfl) kr hH kr h143 h143b rfl kr ?_
     intro v144 a hv hS
     cases hv
     refine tkb T [16, 17] [5, 15] hS hH (tts 18) 0 [(1, Sl a2 l_ c2), (3, Sl a3 picks c3), (4, Pt 5 0), (13, I y110), (16, I r128.1), (103, B (((gi l_ ((gi picks y110).Oper)).Result) != ((gi picks y110).Result)))] fun a hS => ?_
     refine drawnDone kr ?_
     replace hS := hS.sl ⟨[(1, Sl a2 l_ c2), (3, Sl a3 picks c3), (4, Pt 5 0), (13, I y110), (16, I r128.1), (103, B (((gi l_ ((gi picks y110).Oper)).Result) != ((gi picks y110).Result)))], [(5, (24, (cO o_ a1 c1)))]⟩
     exact ⟨Z, _, (((gi l_ ((gi picks y110).Oper)).Result) != ((gi picks y110).Result)), hm, hS.sl _, hO, h115, h116, h117⟩
    replace hS := hS.lit (t := 93) kr hb
    replace hm := hm.2 hb
    refine tkb T [8, 9, 14, 10, 15, 11, 12, 13, 16, 17] [5, 15] hS hH (tts 18) 0 [(1, Sl a2 l_ c2), (3, Sl a3 picks c3), (4, Pt 5 0), (13, I y110), (16, I r128.1), (103, B false)] fun a hS => ?_
    refine drawnDone kr ?_
    replace hS := hS.sl ⟨[(1, Sl a2 l_ c2), (3, Sl a3 picks c3), (4, Pt 5 0), (13, I y110), (16, I r128.1), (103, B false)], [(5, (24, (cO o_ a1 c1)))]⟩
    exact ⟨Z, _, false, hm, hS.sl _, hO, h115, h116, h117⟩
   rintro a w146 ⟨Z, X145, y131, hm, hS, hO, h129, h130, h132⟩
   unfold VC59_J3 at hm
   refine wcond hS (b := y131) kr (fun hb => ?_) fun hb => ?_
   ·replace hm := hm.1 hb
    refine rP T hS ⟨[(8, I 0), (9, I y110), (10, I 40)], []⟩ fun a hS => ?_
    refine wret ?_
    exact fin T hS hO (fun c => c) rfl (r := [.int .i64 0, .int .i64 y110, .int .i64 40]) kr (fun X' hM hC => ⟨(0, y110, 40), hm, rfl⟩)
   replace hm := hm.2 hb
   refine wskip ?_
   refine region (ePb T hS [(1, Sl a2 l_ c2), (2, I r128.1), (3, Sl a3 picks c3), (4, Pt 5 0), (13, I y110)] fun a hS => ?_)
   refine region (ePb T hS [(1, Sl a2 l_ c2), (2, I r128.1), (3, Sl a3 picks c3), (4, Pt 5 0), (13, I (wR (y110 + 1)))] fun a hS => ?_)
   exact ⟨⟨r128.1, wR (y110 + 1)⟩, ⟨Z, _, hm.1, hS.sl _, hO, h129, h130, h132⟩, hm.2⟩
  replace hm := hm.2 hb
  refine wexit (by rfl) ?_
  exact ⟨Z, _, y108, hm, hS.sl _, hO, h109⟩
 rintro a w167 ⟨Z, X166, y105, hm, hS, hO, h106⟩
 unfold VC59_J1 at hm
 refine rPb T hS [(8, I y105), (9, I (lN picks)), (10, I 0)] fun a hS => ?_
 refine wret ?_
 exact fin T hS hO (fun c => c) rfl (r := [.int .i64 y105, .int .i64 (lN picks), .int .i64 0]) kr (fun X' hM hC => ⟨(y105, (lN picks), 0), hm, rfl⟩)
theorem C59 (k41 : S41) (k72 : S72) (v : ∀ (o_ : Api_Object) (l_ : List Api_Oper) (state : Int) (picks : List Api_Pick), VC59 o_ l_ state picks (fun r => r = ref28_From o_ l_ state picks)) : S59 := by
 intro w X o_ l_ state picks a1 c1 a2 c2 a3 c3   h1 h2 h3
 refine (W59 k41 k72 w X o_ l_ state picks a1 c1 a2 c2 a3 c3   _ (v o_ l_ state picks) h1 h2 h3).mono ?_
 rintro _ _ _ _ ⟨r, rfl, h⟩
 exact h
theorem W58 (w0) (X0) (a_ : Api_Oper) (b_ : Api_Oper) (Q : Bool -> Prop) (hm : VC58 a_ b_ Q) :
  Ret Try.prog 58 #[.agg #[.int .i64 a_.Prc, .int .i64 a_.Kind, .int .i64 a_.Start, .int .i64 a_.End, .int .i64 a_.Result], .agg #[.int .i64 b_.Prc, .int .i64 b_.Kind, .int .i64 b_.Start, .int .i64 b_.End, .int .i64 b_.Result]] xnone w0 X0 (fun w X' v => ∃ r, Q r /\ v = .bool r) := by
 unfold VC58 at hm
 refine enter Try.func58 rfl (vals := [.agg #[.int .i64 a_.Prc, .int .i64 a_.Kind, .int .i64 a_.Start, .int .i64 a_.End, .int .i64 a_.Result], .agg #[.int .i64 b_.Prc, .int .i64 b_.Kind, .int .i64 b_.Start, .int .i64 b_.End, .int .i64 b_.Result]]) kr ?_
 intro Z a hS hO hM
 refine rM T hS ⟨[(2, Pt 3 0), (3, Pt 4 0)], [(3, (61, (cP a_))), (4, (61, (cP b_)))]⟩ fun Z a w101 X102 hS hE hr => ?_
 replace hO := hO.m2 hE
 clear hE hr
 refine rP T hS ⟨[(4, B ((decide (a_.End ≥ 0)) && (decide (b_.Start > a_.End))))], []⟩ (sp := [8]) fun a hS => ?_
 refine wret ?_
 exact fin T hS hO (fun c => c) rfl (r := [.bool ((decide (a_.End ≥ 0)) && (decide (b_.Start > a_.End)))]) kr (fun X' hM hC => ⟨((decide (a_.End ≥ 0)) && (decide (b_.Start > a_.End))), hm, rfl⟩)
theorem C58 (v : ∀ (a_ : Api_Oper) (b_ : Api_Oper), VC58 a_ b_ (fun r => r = ref27_Ahead a_ b_)) : S58 := by
 intro w X a_ b_    
 refine (W58 w X a_ b_    _ (v a_ b_)).mono ?_
 rintro _ _ _ _ ⟨r, rfl, h⟩
 exact h
theorem W47 (k58 : S58) (k59 : S59) (k61 : S61) (w0) (X0) (o_ : Api_Object) (l_ : List Api_Oper) (picks : List Api_Pick) (a1) (c1) (a2) (c2) (a3) (c3) (Q : Bool -> Prop) (hm : VC47 o_ l_ picks Q) (h1 : RS tApi_Row w0 X0 a1 o_.Rows c1) (h2 : RS tApi_Oper w0 X0 a2 l_ c2) (h3 : RS tApi_Pick w0 X0 a3 picks c3) :
  Ret Try.prog 47 #[.agg #[.int .i64 o_.States, .int .i64 o_.Kinds, .int .i64 o_.Init, .slice a1 o_.Rows.length c1], .slice a2 l_.length c2, .slice a3 picks.length c3] xnone w0 X0 (fun w X' v => ∃ r, Q r /\ v = .bool r) := by
 unfold VC47 at hm
 replace hm := hm (h1.sm kr)
 replace hm := hm (h2.sm kr)
 replace hm := hm (h3.sm kr)
 refine enter Try.func47 rfl (vals := [.agg #[.int .i64 o_.States, .int .i64 o_.Kinds, .int .i64 o_.Init, .slice a1 o_.Rows.length c1], .slice a2 l_.length c2, .slice a3 picks.length c3]) kr ?_
 intro Z a hS hO hM
 replace h1 := h1.m0 hM
 replace h2 := h2.m0 hM
 replace h3 := h3.m0 hM
 refine rM T hS ⟨[(1, Sl a2 l_ c2), (2, Sl a3 picks c3), (3, Pt 4 0)], [(4, (24, (cO o_ a1 c1)))]⟩ fun Z a w160 X161 hS hE hr => ?_
 replace hO := hO.m2 hE
 replace h1 := h1.m1 hE
 replace h2 := h2.m1 hE
 replace h3 := h3.m1 hE
 clear hE hr
 refine regO ?_
 refine oP T hS 5 ⟨[(1, Sl a2 l_ c2), (2, Sl a3 picks c3), (15, V (.agg #[.int .i64 o_.States, .int .i64 o_.Kinds, .int .i64 o_.Init, .slice a1 o_.Rows.length c1])), (16, Sl a2 l_ c2), (18, I o_.Init), (19, Sl a3 picks c3)], []⟩ fun a hS => ?_
 refine op1 (call hS kr kr hb59 kr (fun _ _ => rfl) (k59 _ _ o_ l_ o_.Init picks a1 c1 a2 c2 a3 c3 h1 h2 h3) ?_)
 intro v101 a w102 X103 hE hp hS
 replace hO := hO.m2 hE
 replace h1 := h1.m1 hE
 replace h2 := h2.m1 hE
 replace h3 := h3.m1 hE
 obtain ⟨r104, hr⟩ : ∃ r, ref28_From o_ l_ o_.Init picks = r := ⟨_, rfl⟩
 replace hm := hm r104 hr
 rw [hr] at hp
 clear hr
 subst hp
 refine ePb T hS [(1, Sl a2 l_ c2), (2, Sl a3 picks c3), (9, I r104.2.2)] fun a hS => ?_
 refine wseq ?_
 refine rPb T hS [(1, Sl a2 l_ c2), (2, Sl a3 picks c3), (25, B (r104.2.2 != 0))] fun a hS => ?_
 refine wcond hS (b := (r104.2.2 != 0)) kr (fun hb => ?_) fun hb => ?_
 ·replace hm := hm.1 hb
  refine rPb T hS [(6, B false)] fun a hS => ?_
  refine wret ?_
  exact fin T hS hO (fun c => c) rfl (r := [.bool false]) kr (fun X' hM hC => ⟨false, hm, rfl⟩)
 replace hm := hm.2 hb
 refine wskip ?_
 refine wcut (fun a w => ∃ Z X, VC47_J1 Q /\ St Try.f47.ntmps ⟨[], []⟩ Z a w X /\ Old w0 X0 w X) ?_ ?_
 ·refine rPb T hS [(1, Sl a2 l_ c2), (2, Sl a3 picks c3), (10, I 0)] fun a hS => ?_
  refine wblock ?_
  obtain ⟨I1, μ1, hm0, hm⟩ := hm
  refine wloop (σ := Int) (fun s a w => ∃ Z X, I1 s /\ St Try.f47.ntmps ⟨[(1, Sl a2 l_ c2), (2, Sl a3 picks c3), (10, I s)], []⟩ Z a w X /\ Old w0 X0 w X /\ RS tApi_Oper w X a2 l_ c2 /\ RS tApi_Pick w X a3 picks c3) (fun s => μ1 s) (0) ?_ ?_
  ·exact ⟨Z, _, hm0, hS.sl _, hO, h2, h3⟩
  rintro y107 a w157 ⟨Z, X156, hI, hS, hO, h105, h106⟩
  replace hm := hm y107 hI
  clear hI hm0
  refine wseq ?_
  refine rPb T hS [(1, Sl a2 l_ c2), (2, Sl a3 picks c3), (10, I y107), (29, B (decide (y107 < (lN l_))))] fun a hS => ?_
  refine wcond hS (b := decide (y107 < (lN l_))) kr (fun hb => ?_) fun hb => ?_
  ·replace hm := hm.1 hb
   refine wskip ?_
   refine wcut (fun a w => ∃ Z X, VC47_J2 I1 μ1 y107 /\ St Try.f47.ntmps ⟨[(1, Sl a2 l_ c2), (2, Sl a3 picks c3), (10, I y107)], []⟩ Z a w X /\ Old w0 X0 w X /\ RS tApi_Oper w X a2 l_ c2 /\ RS tApi_Pick w X a3 picks c3) ?_ ?_
   ·refine wblock ?_
    refine wseq ?_
    refine wcut (fun a w => ∃ (Z : Nat -> Nat) (X : Nat -> Nat) (y112 : Bool), VC47_J3 l_ picks Q I1 μ1 y107 y112 /\ St Try.f47.ntmps ⟨[(1, Sl a2 l_ c2), (2, Sl a3 picks c3), (10, I y107), (43, B y112)], []⟩ Z a w X /\ Old w0 X0 w X /\ RS tApi_Oper w X a2 l_ c2 /\ RS tApi_Pick w X a3 picks c3) ?_ ?_
    ·refine region ?_
     refine oPb T hS 2 [(1, Sl a2 l_ c2), (2, Sl a3 picks c3), (10, I y107), (32, Sl a2 l_ c2), (33, I y107)] fun a hS => ?_
     obtain ⟨hq, hm⟩ := hm
     refine op1 (index (e := 61) (k := .i64) T hS kr kr kr kr h105 kr kr hq.1 hq.2 ?_)
     intro A143 a h144 hS
     refine op1 (fieldA (off := 3) (fsz := 1) (ft := 3) (TF := tI) (y := (gi l_ y107).End) T hS kr kr kr h144 kr kr kr (fun cs h => Api_Oper_f3 h) ?_)
     intro A145 a h146 hS
     refine op1 (load1 T hS kr kr kr h146 rfl kr ?_)
     intro v147 a hv hS
     cases hv
     refine oPb T hS 2 [(1, Sl a2 l_ c2), (2, Sl a3 picks c3), (10, I y107), (38, B (((gi l_ y107).End) != (-1)))] fun a hS => ?_
     rcases bft (((gi l_ y107).End) != (-1)) with hb | hb
     ·replace hS := hS.lit (t := 38) kr hb
      replace hm := hm.1 hb
      refine oPb T hS 2 [(1, Sl a2 l_ c2), (2, Sl a3 picks c3), (10, I y107), (38, B true), (39, Sl a3 picks c3), (40, I y107)] fun a hS => ?_
      refine op1 (call hS kr kr hb61 kr (fun _ _ => rfl) (k61 _ _ picks y107 a3 c3 h106) ?_)
      intro v148 a w149 X150 hE hp hS
      replace hO := hO.m2 hE
      replace h105 := h105.m1 hE
      replace h106 := h106.m1 hE
      obtain ⟨r151, hr⟩ : ∃ r, ref29_Place picks y107 = r := ⟨_, rfl⟩
      replace hm := hm r151 hr
      rw [hr] at hp
      clear hr
      subst hp
      refine ePb T hS [(1, Sl a2 l_ c2), (2, Sl a3 picks c3), (10, I y107), (43, B (decide (r151 < 0)))] fun a hS => ?_
      exact ⟨Z, _, decide (r151 < 0), hm, hS.sl _, hO, h105, h106⟩
     replace hS := hS.lit (t := 38) kr hb
     replace hm := hm.2 hb
     refine ePb T hS [(1, Sl a2 l_ c2), (2, Sl a3 picks c3), (10, I y107), (43, B false)] fun a hS => ?_
     exact ⟨Z, _, false, hm, hS.sl _, hO, h105, h106⟩
    rintro a w153 ⟨Z, X152, y112, hm, hS, hO, h110, h111⟩
    unfold VC47_J3 at hm
    refine wcond hS (b := y112) kr (fun hb => ?_) fun hb => ?_
    ·replace hm := hm.1 hb
     refine rPb T hS [(6, B false)] fun a hS => ?_
     refine wret ?_
     exact fin T hS hO (fun c => c) rfl (r := [.bool false]) kr (fun X' hM hC => ⟨false, hm, rfl⟩)
    replace hm := hm.2 hb
    refine wskip ?_
    refine rPb T hS [(1, Sl a2 l_ c2), (2, Sl a3 picks c3), (10, I y107), (11, I 0)] fun a hS => ?_
    refine wblock ?_
    obtain ⟨I2, μ2, hm0, hm⟩ := hm
    refine wloop (σ := Int) (fun s a w => ∃ Z X, I2 s /\ St Try.f47.ntmps ⟨[(1, Sl a2 l_ c2), (2, Sl a3 picks c3), (10, I y107), (11, I s)], []⟩ Z a w X /\ Old w0 X0 w X /\ RS tApi_Oper w X a2 l_ c2 /\ RS tApi_Pick w X a3 picks c3) (fun s => μ2 s) (0) ?_ ?_
    ·exact ⟨Z, _, hm0, hS.sl _, hO, h110, h111⟩
    rintro y115 a w142 ⟨Z, X141, hI, hS, hO, h113, h114⟩
    replace hm := hm y115 hI
    clear hI hm0
    refine wseq ?_
    refine rPb T hS [(1, Sl a2 l_ c2), (2, Sl a3 picks c3), (10, I y107), (11, I y115), (47, B (decide (y115 < (lN l_))))] fun a hS => ?_
    refine wcond hS (b := decide (y115 < (lN l_))) kr (fun hb => ?_) fun hb => ?_
    ·replace hm := hm.1 hb
     refine wskip (wseq ?_)
     refine wblock ?_
     refine regO ?_
     refine oPb T hS 2 [(1, Sl a2 l_ c2), (2, Sl a3 picks c3), (10, I y107), (11, I y115), (50, Sl a3 picks c3), (51, I y107)] fun a hS => ?_
     refine op1 (call hS kr kr hb61 kr (fun _ _ => rfl) (k61 _ _ picks y107 a3 c3 h114) ?_)
     intro v116 a w117 X118 hE hp hS
     replace hO := hO.m2 hE
     replace h113 := h113.m1 hE
     replace h114 := h114.m1 hE
     obtain ⟨r119, hr⟩ : ∃ r, ref29_Place picks y107 = r := ⟨_, rfl⟩
     replace hm := hm r119 hr
     rw [hr] at hp
     clear hr
     subst hp
     refine oPb T hS 2 [(1, Sl a2 l_ c2), (2, Sl a3 picks c3), (10, I y107), (11, I y115), (52, I r119), (53, Sl a3 picks c3), (54, I y115)] fun a hS => ?_
     refine op1 (call hS kr kr hb61 kr (fun _ _ => rfl) (k61 _ _ picks y115 a3 c3 h114) ?_)
     intro v120 a w121 X122 hE hp hS
     replace hO := hO.m2 hE
     replace h113 := h113.m1 hE
     replace h114 := h114.m1 hE
     obtain ⟨r123, hr⟩ : ∃ r, ref29_Place picks y115 = r := ⟨_, rfl⟩
     replace hm := hm r123 hr
     rw [hr] at hp
     clear hr
     subst hp
     refine ePb T hS [(1, Sl a2 l_ c2), (2, Sl a3 picks c3), (10, I y107), (11, I y115), (12, I r119), (13, I r123)] fun a hS => ?_
     refine wcut (fun a w => ∃ (Z : Nat -> Nat) (X : Nat -> Nat) (y126 : Bool), VC47_J4 Q I2 μ2 y115 y126 /\ St Try.f47.ntmps ⟨[(1, Sl a2 l_ c2), (2, Sl a3 picks c3), (10, I y107), (11, I y115), (77, B y126)], []⟩ Z a w X /\ Old w0 X0 w X /\ RS tApi_Oper w X a2 l_ c2 /\ RS tApi_Pick w X a3 picks c3) ?_ ?_
     ·refine drawnX [] mixed hS ?_
      intro w127 X128 hS hE hD hH
      replace hO := hO.m2 hE
      replace h113 := h113.m1 hE
      replace h114 := h114.m1 hE
      refine tkb T [0, 1, 4, 5] [] hS hH #[true, true, false, false, true, true, false, false, false, false, false, false, false, false, false, false, false, false, false, false, false, false] 18 [(1, Sl a2 l_ c2), (2, Sl a3 picks c3), (10, I y107), (11, I y115), (12, I r119), (13, I r123), (56, Sl a2 l_ c2), (57, I y107), (60, Sl a2 l_ c2), (61, I y115)] fun a hS => ?_
      obtain ⟨hq, hm⟩ := hm
      refine dindex (e := 61) (k := .i64) T 2 hS kr kr kr (by rfl) kr hH kr kr h113 kr kr hq.1 hq.2 ?_
      intro A129 a h130 hS
      have h130b := h130.here
      refine dloadA T 3 hS kr kr kr (by rfl) kr hH kr h130 h130b kr kr ?_
      intro v131 a hv hS
      subst hv
      obtain ⟨hq, hm⟩ := hm
      refine dindex (e := 61) (k := .i64) T 6 hS kr kr kr (by rfl) kr hH kr kr h113 kr kr hq.1 hq.2 ?_
      intro A132 a h133 hS
      have h133b := h133.here
      refine dloadA T 7 hS kr kr kr (by rfl) kr hH kr h133 h133b kr kr ?_
      intro v134 a hv hS
      subst hv
      refine only 8 kr (by rfl) (call hS kr kr hb58 kr (fun _ _ => rfl) (k58 _ _ (gi l_ y107) (gi l_ y115)) ?_)
      intro v135 a w136 X137 hE hp hS
      replace hO := hO.m2 hE
      replace hD := hD.ev hE rfl
      replace h113 := h113.m1 hE
      replace h114 := h114.m1 hE
      replace h130 := h130.m1 hE
      replace h133 := h133.m1 hE
      obtain ⟨r138, hr⟩ : ∃ r, ref27_Ahead (gi l_ y107) (gi l_ y115) = r := ⟨_, rfl⟩
      replace hm := hm r138 hr
      rw [hr] at hp
      clear hr
      subst hp
      refine andH (Hold.of hS (bks := []) kr hD) ?_
      intro hH
      refine tkb T [9] [] hS hH #[true, true, true, true, true, true, true, true, true, true, false, false, false, false, false, false, false, false, false, false, false, false] 12 [(1, Sl a2 l_ c2), (2, Sl a3 picks c3), (10, I y107), (11, I y115), (12, I r119), (13, I r123), (65, B r138)] fun a hS => ?_
      refine takeM (tc := 65) (b := r138) (f := fun c => ⟨[(1, Sl a2 l_ c2), (2, Sl a3 picks c3), (10, I y107), (11, I y115), (12, I r119), (13, I r123), (68, B (c && (decide (r123 ≥ 0))))], []⟩) T [10, 11, 12] [] [1, 2, 10, 11, 12, 13, 68] hS kr kr kr kr hH (listed' := #[true, true, true, true, true, true, true, true, true, true, true, true, true, false, false, false, false, false, false, false, false, false]) (fuel := 9) kr kr (by rfl) ?_
      intro a hS
      refine tkb T [13] [] hS hH #[true, true, true, true, true, true, true, true, true, true, true, true, true, true, false, false, false, false, false, false, false, false] 8 [(1, Sl a2 l_ c2), (2, Sl a3 picks c3), (10, I y107), (11, I y115), (12, I r119), (13, I r123), (69, B (r138 && (decide (r123 ≥ 0))))] fun a hS => ?_
      rcases bft (r138 && (decide (r123 ≥ 0))) with hb | hb
      ·replace hS := hS.lit (t := 69) kr hb
       replace hm := hm.1 hb
       refine tkb T [14, 15, 16] [] hS hH #[true, true, true, true, true, true, true, true, true, true, true, true, true, true, true, true, true, false, false, false, false, false] 5 [(1, Sl a2 l_ c2), (2, Sl a3 picks c3), (10, I y107), (11, I y115), (12, I r119), (13, I r123), (69, B true), (72, B (decide (r119 < 0)))] fun a hS => ?_
       refine takeM (tc := 72) (b := decide (r119 < 0)) (f := fun c => ⟨[(1, Sl a2 l_ c2), (2, Sl a3 picks c3), (10, I y107), (11, I y115), (69, B true), (76, B (c || (decide (r119 > r123))))], []⟩) T [17, 18, 19, 20] [] [1, 2, 10, 11, 69, 76] hS kr kr kr kr hH (listed' := #[true, true, true, true, true, true, true, true, true, true, true, true, true, true, true, true, true, true, true, true, true, false]) (fuel := 1) kr kr (by rfl) ?_
       intro a hS
       refine tkb T [21] [] hS hH (tts 22) 0 [(1, Sl a2 l_ c2), (2, Sl a3 picks c3), (10, I y107), (11, I y115), (77, B ((decide (r119 < 0)) || (decide (r119 > r123))))] fun a hS => ?_
       refine drawnDone kr ?_
       replace hS := hS.slb [(1, Sl a2 l_ c2), (2, Sl a3 picks c3), (10, I y107), (11, I y115), (77, B ((decide (r119 < 0)) || (decide (r119 > r123))))]
       exact ⟨Z, _, ((decide (r119 < 0)) || (decide (r119 > r123))), hm, hS.sl _, hO, h113, h114⟩
      replace hS := hS.lit (t := 69) kr hb
      replace hm := hm.2 hb
      refine tkb T [14, 15, 16, 17, 18, 19, 20, 21] [] hS hH (tts 22) 0 [(1, Sl a2 l_ c2), (2, Sl a3 picks c3), (10, I y107), (11, I y115), (77, B false)] fun a hS => ?_
      refine drawnDone kr ?_
      replace hS := hS.slb [(1, Sl a2 l_ c2), (2, Sl a3 picks c3), (10, I y107), (11, I y115), (77, B false)]
      exact ⟨Z, _, false, hm, hS.sl _, hO, h113, h114⟩
     rintro a w140 ⟨Z, X139, y126, hm, hS, hO, h124, h125⟩
     unfold VC47_J4 at hm
     refine wcond hS (b := y126) kr (fun hb => ?_) fun hb => ?_
     ·replace hm := hm.1 hb
      refine rPb T hS [(6, B false)] fun a hS => ?_
      refine wret ?_
      exact fin T hS hO (fun c => c) rfl (r := [.bool false]) kr (fun X' hM hC => ⟨false, hm, rfl⟩)
     replace hm := hm.2 hb
     refine wskip ?_
     refine region (ePb T hS [(1, Sl a2 l_ c2), (2, Sl a3 picks c3), (10, I y107), (11, I (wR (y115 + 1)))] fun a hS => ?_)
     exact ⟨wR (y115 + 1), ⟨Z, _, hm.1, hS.sl _, hO, h124, h125⟩, hm.2⟩
    replace hm := hm.2 hb
    refine wexit (by rfl) ?_
    exact ⟨Z, _, hm, hS.sl _, hO, h113, h114⟩
   rintro a w155 ⟨Z, X154, hm, hS, hO, h108, h109⟩
   unfold VC47_J2 at hm
   refine region (ePb T hS [(1, Sl a2 l_ c2), (2, Sl a3 picks c3), (10, I (wR (y107 + 1)))] fun a hS => ?_)
   exact ⟨wR (y107 + 1), ⟨Z, _, hm.1, hS.sl _, hO, h108, h109⟩, hm.2⟩
  replace hm := hm.2 hb
  refine wexit (by rfl) ?_
  exact ⟨Z, _, hm, hS.sl _, hO⟩
 rintro a w159 ⟨Z, X158, hm, hS, hO⟩
 unfold VC47_J1 at hm
 refine rPb T hS [(6, B true)] fun a hS => ?_
 refine wret ?_
 exact fin T hS hO (fun c => c) rfl (r := [.bool true]) kr (fun X' hM hC => ⟨true, hm, rfl⟩)
theorem C47 (k58 : S58) (k59 : S59) (k61 : S61) (v : ∀ (o_ : Api_Object) (l_ : List Api_Oper) (picks : List Api_Pick), VC47 o_ l_ picks (fun r => r = ref29_Lin o_ l_ picks)) : S47 := by
 intro w X o_ l_ picks a1 c1 a2 c2 a3 c3   h1 h2 h3
 refine (W47 k58 k59 k61 w X o_ l_ picks a1 c1 a2 c2 a3 c3   _ (v o_ l_ picks) h1 h2 h3).mono ?_
 rintro _ _ _ _ ⟨r, rfl, h⟩
 exact h
theorem W46 (k59 : S59) (k60 : S60) (w0) (X0) (o_ : Api_Object) (l_ : List Api_Oper) (order : List Int) (a1) (c1) (a2) (c2) (a3) (c3) (Q : (List Api_Pick) × Int -> Prop) (hm : VC46 o_ l_ order Q) (h1 : RS tApi_Row w0 X0 a1 o_.Rows c1) (h2 : RS tApi_Oper w0 X0 a2 l_ c2) (h3 : RS tI w0 X0 a3 order c3) :
  Ret Try.prog 46 #[.agg #[.int .i64 o_.States, .int .i64 o_.Kinds, .int .i64 o_.Init, .slice a1 o_.Rows.length c1], .slice a2 l_.length c2, .slice a3 order.length c3] xnone w0 X0 (fun w X' v => ∃ r, Q r /\ ∃ ra1 rc1, v = .tuple #[.slice ra1 r.1.length rc1, .int .i64 r.2] /\ RS tApi_Pick w X' ra1 r.1 rc1) := by
 unfold VC46 at hm
 replace hm := hm (h1.sm kr)
 replace hm := hm (h2.sm kr)
 replace hm := hm (h3.sm kr)
 refine enter Try.func46 rfl (vals := [.agg #[.int .i64 o_.States, .int .i64 o_.Kinds, .int .i64 o_.Init, .slice a1 o_.Rows.length c1], .slice a2 l_.length c2, .slice a3 order.length c3]) kr ?_
 intro Z a hS hO hM
 replace h1 := h1.m0 hM
 replace h2 := h2.m0 hM
 replace h3 := h3.m0 hM
 refine rM T hS ⟨[(1, Sl a2 l_ c2), (2, Sl a3 order c3), (3, Pt 4 0)], [(4, (24, (cO o_ a1 c1)))]⟩ fun Z a w184 X185 hS hE hr => ?_
 replace hO := hO.m2 hE
 replace h1 := h1.m1 hE
 replace h2 := h2.m1 hE
 replace h3 := h3.m1 hE
 clear hE hr
 refine rPb T hS [(1, Sl a2 l_ c2), (2, Sl a3 order c3), (3, Pt 4 0), (8, V (.slice none 0 0))] fun a hS => ?_
 refine regO ?_
 refine oPb T hS 5 [(1, Sl a2 l_ c2), (2, Sl a3 order c3), (3, Pt 4 0), (8, V (.slice none 0 0)), (15, V (.agg #[.int .i64 o_.States, .int .i64 o_.Kinds, .int .i64 o_.Init, .slice a1 o_.Rows.length c1])), (16, Sl a2 l_ c2), (18, I o_.Init), (19, V (.slice none 0 0))] fun a hS => ?_
 refine op1 (call hS kr kr hb59 kr (fun _ _ => rfl) (k59 _ _ o_ l_ o_.Init [] a1 c1 a2 c2 none 0 h1 h2 (RS.empty _ _ _)) ?_)
 intro v101 a w102 X103 hE hp hS
 replace hO := hO.m2 hE
 replace h1 := h1.m1 hE
 replace h2 := h2.m1 hE
 replace h3 := h3.m1 hE
 obtain ⟨r104, hr⟩ : ∃ r, ref28_From o_ l_ o_.Init [] = r := ⟨_, rfl⟩
 replace hm := hm r104 hr
 rw [hr] at hp
 clear hr
 subst hp
 refine ePb T hS [(1, Sl a2 l_ c2), (2, Sl a3 order c3), (3, Pt 4 0), (8, V (.slice none 0 0)), (9, I r104.1), (11, I r104.2.2)] fun a hS => ?_
 refine wseq ?_
 refine rPb T hS [(1, Sl a2 l_ c2), (2, Sl a3 order c3), (3, Pt 4 0), (8, V (.slice none 0 0)), (9, I r104.1), (11, I r104.2.2), (25, B (r104.2.2 != 0))] fun a hS => ?_
 refine wcond hS (b := (r104.2.2 != 0)) kr (fun hb => ?_) fun hb => ?_
 ·replace hm := hm.1 hb
  refine rP T hS ⟨[(6, V (.slice none 0 0)), (7, I r104.2.2)], []⟩ fun a hS => ?_
  refine wret ?_
  exact fin T hS hO (fun c => c) rfl (r := [.slice none 0 0, .int .i64 r104.2.2]) kr (fun X' hM hC => ⟨([], r104.2.2), hm, none, 0, rfl, RS.empty _ _ _⟩)
 replace hm := hm.2 hb
 refine wskip ?_
 refine wcut (fun a w => ∃ (Z : Nat -> Nat) (X : Nat -> Nat) (y105 : List Api_Pick) (a106 : Option Addr) (c107 : Nat), VC46_J1 Q y105 /\ St Try.f46.ntmps ⟨[(8, Sl a106 y105 c107)], []⟩ Z a w X /\ Old w0 X0 w X /\ OS tApi_Pick 109 w X 1007 a106 y105 c107) ?_ ?_
 ·refine rPb T hS [(1, Sl a2 l_ c2), (2, Sl a3 order c3), (3, Pt 4 0), (8, V (.slice none 0 0)), (9, I r104.1), (12, I 0)] fun a hS => ?_
  refine wblock ?_
  obtain ⟨I1, μ1, hm0, hm⟩ := hm
  refine wloop (σ := (List Api_Pick) × Int × Int) (fun s a w => ∃ Z X a114 c115, I1 s.1 s.2.1 s.2.2 /\ St Try.f46.ntmps ⟨[(1, Sl a2 l_ c2), (2, Sl a3 order c3), (3, Pt 4 0), (8, Sl a114 s.1 c115), (9, I s.2.1), (12, I s.2.2)], [(4, (24, (cO o_ a1 c1)))]⟩ Z a w X /\ Old w0 X0 w X /\ RS tApi_Oper w X a2 l_ c2 /\ RS tI w X a3 order c3 /\ OS tApi_Pick 109 w X 1007 a114 s.1 c115 /\ RS tApi_Row w X a1 o_.Rows c1) (fun s => μ1 s.1 s.2.1 s.2.2) (⟨[], r104.1, 0⟩) ?_ ?_
  ·exact ⟨Z, _, none, 0, hm0, hS.sl _, hO, h2, h3, (OS.nil _ _ _ _ _), h1⟩
  rintro ⟨y113, y117, y118⟩ a w181 ⟨Z, X180, a114, c115, hI, hS, hO, h111, h112, h116, h119⟩
  replace hm := hm y113 y117 y118 hI
  clear hI hm0
  refine wseq ?_
  refine rPb T hS [(1, Sl a2 l_ c2), (2, Sl a3 order c3), (3, Pt 4 0), (8, Sl a114 y113 c115), (9, I y117), (12, I y118), (30, B (decide (y118 < (lN order))))] fun a hS => ?_
  refine wcond hS (b := decide (y118 < (lN order))) kr (fun hb => ?_) fun hb => ?_
  ·replace hm := hm.1 hb
   refine wskip (wseq ?_)
   refine wblock ?_
   refine regO ?_
   refine oPb T hS 2 [(1, Sl a2 l_ c2), (2, Sl a3 order c3), (3, Pt 4 0), (8, Sl a114 y113 c115), (9, I y117), (12, I y118), (33, Sl a3 order c3), (34, I y118)] fun a hS => ?_
   obtain ⟨hq, hm⟩ := hm
   refine op1 (index (e := 3) (k := .i64) T hS kr kr kr kr h112 kr kr hq.1 hq.2 ?_)
   intro A120 a h121 hS
   refine op1 (load1 T hS kr kr kr h121 rfl kr ?_)
   intro v122 a hv hS
   cases hv
   refine eM T hS ⟨[(1, Sl a2 l_ c2), (2, Sl a3 order c3), (3, Pt 4 0), (8, Sl a114 y113 c115), (9, I y117), (12, I y118), (13, Pt 14 0)], [(4, (24, (cO o_ a1 c1))), (14, (109, [I (gi order y118), I 0]))]⟩ fun Z a w178 X179 hS hE hr => ?_
   replace hO := hO.m2 hE
   replace h111 := h111.m1 hE
   replace h112 := h112.m1 hE
   replace h116 := h116.m2 hE
   replace h119 := h119.m1 hE
   clear hE hr
   refine wcut (fun a w => ∃ (Z : Nat -> Nat) (X : Nat -> Nat) (y125 : List Api_Pick) (y130 : Int) (a126 : Option Addr) (c127 : Nat), VC46_J2 o_ l_ order Q I1 μ1 y113 y117 y118 y125 y130 /\ St Try.f46.ntmps ⟨[(1, Sl a2 l_ c2), (2, Sl a3 order c3), (3, Pt 4 0), (8, Sl a126 y125 c127), (12, I y118), (13, Pt 14 0)], [(4, (24, (cO o_ a1 c1))), (14, (109, [I (gi order y118), I y130]))]⟩ Z a w X /\ Old w0 X0 w X /\ RS tApi_Oper w X a2 l_ c2 /\ RS tI w X a3 order c3 /\ OS tApi_Pick 109 w X 1007 a126 y125 c127 /\ RS tApi_Row w X a1 o_.Rows c1) ?_ ?_
   ·refine wcut (fun a w => ∃ (Z : Nat -> Nat) (X : Nat -> Nat) (y146 : List Api_Pick) (y150 : Bool) (a147 : Option Addr) (c148 : Nat), VC46_J3 o_ l_ order Q I1 μ1 y113 y117 y118 y146 y150 /\ St Try.f46.ntmps ⟨[(1, Sl a2 l_ c2), (2, Sl a3 order c3), (3, Pt 4 0), (8, Sl a147 y146 c148), (9, I y117), (12, I y118), (13, Pt 14 0), (51, B y150)], [(4, (24, (cO o_ a1 c1))), (14, (109, [I (gi order y118), I 0]))]⟩ Z a w X /\ Old w0 X0 w X /\ RS tApi_Oper w X a2 l_ c2 /\ RS tI w X a3 order c3 /\ OS tApi_Pick 109 w X 1007 a147 y146 c148 /\ RS tApi_Row w X a1 o_.Rows c1) ?_ ?_
    ·refine region ?_
     refine oPb T hS 2 [(1, Sl a2 l_ c2), (2, Sl a3 order c3), (3, Pt 4 0), (8, Sl a114 y113 c115), (9, I y117), (12, I y118), (13, Pt 14 0), (38, Sl a3 order c3), (39, I y118)] fun a hS => ?_
     obtain ⟨hq, hm⟩ := hm
     refine op1 (index (e := 3) (k := .i64) T hS kr kr kr kr h112 kr kr hq.1 hq.2 ?_)
     intro A168 a h169 hS
     refine op1 (load1 T hS kr kr kr h169 rfl kr ?_)
     intro v170 a hv hS
     cases hv
     refine oPb T hS 2 [(1, Sl a2 l_ c2), (2, Sl a3 order c3), (3, Pt 4 0), (8, Sl a114 y113 c115), (9, I y117), (12, I y118), (13, Pt 14 0), (43, B (decide ((gi order y118) ≥ 0)))] fun a hS => ?_
     rcases bft (decide ((gi order y118) ≥ 0)) with hb | hb
     ·replace hS := hS.lit (t := 43) kr hb
      replace hm := hm.1 hb
      refine oPb T hS 2 [(1, Sl a2 l_ c2), (2, Sl a3 order c3), (3, Pt 4 0), (8, Sl a114 y113 c115), (9, I y117), (12, I y118), (13, Pt 14 0), (43, B true), (44, Sl a3 order c3), (45, I y118)] fun a hS => ?_
      obtain ⟨hq, hm⟩ := hm
      refine op1 (index (e := 3) (k := .i64) T hS kr kr kr kr h112 kr kr hq.1 hq.2 ?_)
      intro A171 a h172 hS
      refine op1 (load1 T hS kr kr kr h172 rfl kr ?_)
      intro v173 a hv hS
      cases hv
      refine ePb T hS [(1, Sl a2 l_ c2), (2, Sl a3 order c3), (3, Pt 4 0), (8, Sl a114 y113 c115), (9, I y117), (12, I y118), (13, Pt 14 0), (51, B (decide ((gi order y118) < (lN l_))))] fun a hS => ?_
      exact ⟨Z, _, y113, decide ((gi order y118) < (lN l_)), a114, c115, hm, hS.sl _, hO, h111, h112, h116, h119⟩
     replace hS := hS.lit (t := 43) kr hb
     replace hm := hm.2 hb
     refine ePb T hS [(1, Sl a2 l_ c2), (2, Sl a3 order c3), (3, Pt 4 0), (8, Sl a114 y113 c115), (9, I y117), (12, I y118), (13, Pt 14 0), (51, B false)] fun a hS => ?_
     exact ⟨Z, _, y113, false, a114, c115, hm, hS.sl _, hO, h111, h112, h116, h119⟩
    rintro a w175 ⟨Z, X174, y146, y150, a147, c148, hm, hS, hO, h144, h145, h149, h151⟩
    unfold VC46_J3 at hm
    refine wcond hS (b := y150) kr (fun hb => ?_) fun hb => ?_
    ·replace hm := hm.1 hb
     refine drawnX [4] mixed hS ?_
     intro w152 X153 hS hE hD hH
     replace hO := hO.m2 hE
     replace h144 := h144.m1 hE
     replace h145 := h145.m1 hE
     replace h149 := h149.m2 hE
     replace h151 := h151.m1 hE
     refine tkb T [0, 1, 2, 3, 4] [4] hS hH #[true, true, true, true, true, false, false, false, false, false, false, false, false, false, false, false, false] 12 [(1, Sl a2 l_ c2), (2, Sl a3 order c3), (3, Pt 4 0), (8, Sl a147 y146 c148), (12, I y118), (13, Pt 14 0), (53, V (.agg #[.int .i64 o_.States, .int .i64 o_.Kinds, .int .i64 o_.Init, .slice a1 o_.Rows.length c1])), (54, I y117), (55, Sl a2 l_ c2), (56, Sl a3 order c3), (57, I y118)] fun a hS => ?_
     obtain ⟨hq, hm⟩ := hm
     refine dindex (e := 3) (k := .i64) T 5 hS kr kr kr (by rfl) kr hH kr kr h145 kr kr hq.1 hq.2 ?_
     intro A154 a h155 hS
     have h155b := h155.here
     refine dload1 T 6 hS kr kr kr (by rfl) kr hH kr h155 h155b rfl kr ?_
     intro v156 a hv hS
     cases hv
     obtain ⟨hq, hm⟩ := hm
     refine dindex (e := 61) (k := .i64) T 7 hS kr kr kr (by rfl) kr hH kr kr h144 kr kr hq.1 hq.2 ?_
     intro A157 a h158 hS
     have h158b := h158.here
     refine dfieldA (off := 1) (fsz := 1) (ft := 3) (TF := tI) (y := (gi l_ (gi order y118)).Kind) 8 T hS kr kr kr (by rfl) kr hH kr h158 kr kr kr (fun cs h => Api_Oper_f1 h) ?_
     intro A159 a h160 hbl hS
     have h160b := h158b
     rw [← hbl] at h160b
     clear hbl
     refine dload1 T 9 hS kr kr kr (by rfl) kr hH kr h160 h160b rfl kr ?_
     intro v161 a hv hS
     cases hv
     refine only 10 kr (by rfl) (call hS kr kr hb60 kr (fun _ _ => rfl) (k60 _ _ o_ y117 ((gi l_ (gi order y118)).Kind) a1 c1 h151) ?_)
     intro v162 a w163 X164 hE hp hS
     replace hO := hO.m2 hE
     replace hD := hD.ev hE rfl
     replace h144 := h144.m1 hE
     replace h145 := h145.m1 hE
     replace h149 := h149.m2 hE
     replace h151 := h151.m1 hE
     replace h155 := h155.m1 hE
     replace h158 := h158.m1 hE
     replace h160 := h160.m1 hE
     obtain ⟨r165, hr⟩ : ∃ r, ref23_Move o_ y117 ((gi l_ (gi order y118)).Kind) = r := ⟨_, rfl⟩
     replace hm := hm r165 hr
     rw [hr] at hp
     clear hr
     subst hp
     replace hS := hS.slb [(1, Sl a2 l_ c2), (2, Sl a3 order c3), (3, Pt 4 0), (8, Sl a147 y146 c148), (12, I y118), (13, Pt 14 0), (53, V (.agg #[.int .i64 o_.States, .int .i64 o_.Kinds, .int .i64 o_.Init, .slice a1 o_.Rows.length c1])), (54, I y117), (55, Sl a2 l_ c2), (56, Sl a3 order c3), (57, I y118), (58, V (.pointer (some A154))), (59, I (gi order y118)), (60, V (.pointer (some A157))), (61, V (.pointer (some A159))), (62, I ((gi l_ (gi order y118)).Kind)), (63, V (.tuple #[.int .i64 r165.1, .int .i64 r165.2.1, .bool r165.2.2]))]
     refine andH (Hold.of hS (bks := [4]) kr hD) ?_
     intro hH
     refine tkb T [11, 12, 13, 14, 15] [4] hS hH #[true, true, true, true, true, true, true, true, true, true, true, true, true, true, true, true, false] 1 [(1, Sl a2 l_ c2), (2, Sl a3 order c3), (3, Pt 4 0), (8, Sl a147 y146 c148), (12, I y118), (13, Pt 14 0), (65, I r165.2.1), (67, Pt 14 1)] fun a hS => ?_
     replace hS := hS.sl ⟨[(1, Sl a2 l_ c2), (2, Sl a3 order c3), (3, Pt 4 0), (8, Sl a147 y146 c148), (12, I y118), (13, Pt 14 0), (65, I r165.2.1), (67, Pt 14 1)], [(4, (24, (cO o_ a1 c1))), (14, (109, [I (gi order y118), I 0]))]⟩
     refine only 16 kr (by rfl) (store1 T hS kr kr (sy' := ⟨[(1, Sl a2 l_ c2), (2, Sl a3 order c3), (3, Pt 4 0), (8, Sl a147 y146 c148), (12, I y118), (13, Pt 14 0), (65, I r165.2.1), (67, Pt 14 1)], [(14, (109, [I (gi order y118), I r165.2.1])), (4, (24, (cO o_ a1 c1))), (14, (109, [I (gi order y118), I 0]))]⟩) kr ?_)
     intro a w166 X167 hS hE
     replace hO := hO.m2 hE
     replace hD := hD.ev hE rfl
     replace h144 := h144.m1 hE
     replace h145 := h145.m1 hE
     replace h149 := h149.m2 hE
     replace h151 := h151.m1 hE
     replace h155 := h155.m1 hE
     replace h158 := h158.m1 hE
     replace h160 := h160.m1 hE
     replace hS := hS.sl ⟨[(1, Sl a2 l_ c2), (2, Sl a3 order c3), (3, Pt 4 0), (8, Sl a147 y146 c148), (12, I y118), (13, Pt 14 0), (65, I r165.2.1), (67, Pt 14 1)], [(4, (24, (cO o_ a1 c1))), (14, (109, [I (gi order y118), I r165.2.1]))]⟩
     refine andH (Hold.of hS (bks := [4]) kr hD) ?_
     intro hH
     refine drawnDone kr ?_
     replace hS := hS.slb [(1, Sl a2 l_ c2), (2, Sl a3 order c3), (3, Pt 4 0), (8, Sl a147 y146 c148), (12, I y118), (13, Pt 14 0)]
     exact ⟨Z, _, y146, r165.2.1, a147, c148, hm, hS.sl _, hO, h144, h145, h149, h151⟩
    replace hm := hm.2 hb
    refine wskip ?_
    exact ⟨Z, _, y146, 0, a147, c148, hm, hS.sl _, hO, h144, h145, h149, h151⟩
   rintro a w177 ⟨Z, X176, y125, y130, a126, c127, hm, hS, hO, h123, h124, h128, h129⟩
   unfold VC46_J2 at hm
   refine regO ?_
   refine oP T hS 2 ⟨[(1, Sl a2 l_ c2), (2, Sl a3 order c3), (3, Pt 4 0), (8, Sl a126 y125 c127), (12, I y118), (68, Sl a126 y125 c127), (69, V (.agg #[.int .i64 (gi order y118), .int .i64 y130]))], [(4, (24, (cO o_ a1 c1)))]⟩ fun a hS => ?_
   refine op1 (lit (E := 109) (col := 0) (T := tApi_Pick) (vals := [.agg #[.int .i64 (gi order y118), .int .i64 y130]]) (ys := [(⟨gi order y118, y130⟩ : Api_Pick)]) T hS kr kr kr kr (by exact ⟨rfl, trivial⟩) rfl kr kr kr kr ?_)
   intro b131 a w132 X133 hE h134 hN hS
   clear hN
   replace hO := hO.m2 hE
   replace h123 := h123.m1 hE
   replace h124 := h124.m1 hE
   replace h128 := h128.m2 hE
   replace h129 := h129.m1 hE
   replace h134 := h134.rs0
   obtain ⟨hq, hm⟩ := hm
   obtain ⟨news, hN⟩ := h134.src
   refine op1 (append (E := 109) (T := tApi_Pick) (col := 1007) (xs := y125) T hS kr kr kr kr h128 hN kr kr kr kr hq ?_)
   intro a138 c139 a w135 X136 hE h137 hS
   clear hq hN
   clear h128
   replace hO := hO.m2 hE
   replace h123 := h123.m1 hE
   replace h124 := h124.m1 hE
   replace h129 := h129.m1 hE
   replace h134 := h134.m1 hE
   refine ePb T hS [(1, Sl a2 l_ c2), (2, Sl a3 order c3), (3, Pt 4 0), (8, Sl a138 (y125 ++ [(⟨gi order y118, y130⟩ : Api_Pick)]) c139), (12, I y118)] fun a hS => ?_
   refine regO ?_
   refine oPb T hS 5 [(1, Sl a2 l_ c2), (2, Sl a3 order c3), (3, Pt 4 0), (8, Sl a138 (y125 ++ [(⟨gi order y118, y130⟩ : Api_Pick)]) c139), (12, I y118), (73, V (.agg #[.int .i64 o_.States, .int .i64 o_.Kinds, .int .i64 o_.Init, .slice a1 o_.Rows.length c1])), (74, Sl a2 l_ c2), (76, I o_.Init), (77, Sl a138 (y125 ++ [(⟨gi order y118, y130⟩ : Api_Pick)]) c139)] fun a hS => ?_
   refine op1 (call hS kr kr hb59 kr (fun _ _ => rfl) (Ret.unlend (k59 _ (lend 1007 _) o_ l_ o_.Init (y125 ++ [(⟨gi order y118, y130⟩ : Api_Pick)]) a1 c1 a2 c2 a138 c139 (h129.m0 (M0.lend 1007)) (h123.m0 (M0.lend 1007)) h137.lend)) ?_)
   intro v140 a w141 X142 hE hp hS
   replace hO := hO.m2 hE
   replace h123 := h123.m1 hE
   replace h124 := h124.m1 hE
   replace h129 := h129.m1 hE
   replace h137 := h137.m2 hE
   obtain ⟨_, hp⟩ := hp
   obtain ⟨r143, hr⟩ : ∃ r, ref28_From o_ l_ o_.Init (y125 ++ [(⟨gi order y118, y130⟩ : Api_Pick)]) = r := ⟨_, rfl⟩
   replace hm := hm r143 hr
   rw [hr] at hp
   clear hr
   subst hp
   refine ePb T hS [(1, Sl a2 l_ c2), (2, Sl a3 order c3), (3, Pt 4 0), (8, Sl a138 (y125 ++ [(⟨gi order y118, y130⟩ : Api_Pick)]) c139), (9, I r143.1), (11, I r143.2.2), (12, I y118)] fun a hS => ?_
   refine rPb T hS [(1, Sl a2 l_ c2), (2, Sl a3 order c3), (3, Pt 4 0), (8, Sl a138 (y125 ++ [(⟨gi order y118, y130⟩ : Api_Pick)]) c139), (9, I r143.1), (11, I r143.2.2), (12, I y118), (83, B (r143.2.2 != 0))] fun a hS => ?_
   refine wcond hS (b := (r143.2.2 != 0)) kr (fun hb => ?_) fun hb => ?_
   ·replace hm := hm.1 hb
    refine rP T hS ⟨[(6, V (.slice none 0 0)), (7, I r143.2.2)], []⟩ fun a hS => ?_
    refine wret ?_
    exact fin T hS hO (fun c => c) rfl (r := [.slice none 0 0, .int .i64 r143.2.2]) kr (fun X' hM hC => ⟨([], r143.2.2), hm, none, 0, rfl, RS.empty _ _ _⟩)
   replace hm := hm.2 hb
   refine wskip ?_
   refine region (ePb T hS [(1, Sl a2 l_ c2), (2, Sl a3 order c3), (3, Pt 4 0), (8, Sl a138 (y125 ++ [(⟨gi order y118, y130⟩ : Api_Pick)]) c139), (9, I r143.1), (12, I (wR (y118 + 1)))] fun a hS => ?_)
   exact ⟨⟨y125 ++ [(⟨gi order y118, y130⟩ : Api_Pick)], r143.1, wR (y118 + 1)⟩, ⟨Z, _, a138, c139, hm.1, hS.sl _, hO, h123, h124, h137, h129⟩, hm.2⟩
  replace hm := hm.2 hb
  refine wexit (by rfl) ?_
  exact ⟨Z, _, y113, a114, c115, hm, hS.sl _, hO, h116⟩
 rintro a w183 ⟨Z, X182, y105, a106, c107, hm, hS, hO, h108⟩
 unfold VC46_J1 at hm
 refine rPb T hS [(6, Sl a106 y105 c107), (7, I 0)] fun a hS => ?_
 refine wret ?_
 obtain ⟨X109, hE, hF⟩ := h108.freeze (by decide)
 replace hS := hS.ev hE (xone_box kr)
 replace hO := hO.m2 hE
 have h110 := hF; clear hE hF
 exact fin T hS hO (fun c => c) rfl (r := [.slice a106 y105.length c107, .int .i64 0]) kr (fun X' hM hC => ⟨(y105, 0), hm, a106, c107, rfl, h110.m0 hM⟩)
theorem C46 (k59 : S59) (k60 : S60) (v : ∀ (o_ : Api_Object) (l_ : List Api_Oper) (order : List Int), preR2 o_ l_ order -> VC46 o_ l_ order (fun r => r = ref28_Fill o_ l_ order)) : S46 := by
 intro w X o_ l_ order a1 c1 a2 c2 a3 c3   hp h1 h2 h3
 refine (W46 k59 k60 w X o_ l_ order a1 c1 a2 c2 a3 c3   _ (v o_ l_ order hp) h1 h2 h3).mono ?_
 rintro _ _ _ _ ⟨r, rfl, h⟩
 exact h
theorem W57 (w0) (X0) (a_ : Api_Oper) (b_ : Api_Oper) (Q : Bool -> Prop) (hm : VC57 a_ b_ Q) :
  Ret Try.prog 57 #[.agg #[.int .i64 a_.Prc, .int .i64 a_.Kind, .int .i64 a_.Start, .int .i64 a_.End, .int .i64 a_.Result], .agg #[.int .i64 b_.Prc, .int .i64 b_.Kind, .int .i64 b_.Start, .int .i64 b_.End, .int .i64 b_.Result]] xnone w0 X0 (fun w X' v => ∃ r, Q r /\ v = .bool r) := by
 unfold VC57 at hm
 refine enter Try.func57 rfl (vals := [.agg #[.int .i64 a_.Prc, .int .i64 a_.Kind, .int .i64 a_.Start, .int .i64 a_.End, .int .i64 a_.Result], .agg #[.int .i64 b_.Prc, .int .i64 b_.Kind, .int .i64 b_.Start, .int .i64 b_.End, .int .i64 b_.Result]]) kr ?_
 intro Z a hS hO hM
 refine rM T hS ⟨[(2, Pt 3 0), (3, Pt 4 0)], [(3, (61, (cP a_))), (4, (61, (cP b_)))]⟩ fun Z a w101 X102 hS hE hr => ?_
 replace hO := hO.m2 hE
 clear hE hr
 refine rP T hS ⟨[(4, B ((((a_.Start == b_.Start) || (a_.End == b_.Start)) || (a_.Start == b_.End)) || ((a_.End == b_.End) && (a_.End != (-1)))))], []⟩ (sp := [10, 17, 24, 30]) fun a hS => ?_
 refine wret ?_
 exact fin T hS hO (fun c => c) rfl (r := [.bool ((((a_.Start == b_.Start) || (a_.End == b_.Start)) || (a_.Start == b_.End)) || ((a_.End == b_.End) && (a_.End != (-1))))]) kr (fun X' hM hC => ⟨((((a_.Start == b_.Start) || (a_.End == b_.Start)) || (a_.Start == b_.End)) || ((a_.End == b_.End) && (a_.End != (-1)))), hm, rfl⟩)
theorem C57 (v : ∀ (a_ : Api_Oper) (b_ : Api_Oper), VC57 a_ b_ (fun r => r = ref27_meets a_ b_)) : S57 := by
 intro w X a_ b_    
 refine (W57 w X a_ b_    _ (v a_ b_)).mono ?_
 rintro _ _ _ _ ⟨r, rfl, h⟩
 exact h
theorem W44 (k57 : S57) (k58 : S58) (w0) (X0) (l_ : List Api_Oper) (a1) (c1) (Q : Int × Int -> Prop) (hm : VC44 l_ Q) (h1 : RS tApi_Oper w0 X0 a1 l_ c1) :
  Ret Try.prog 44 #[.slice a1 l_.length c1] xnone w0 X0 (fun w X' v => ∃ r, Q r /\ v = .tuple #[.int .i64 r.1, .int .i64 r.2]) := by
 unfold VC44 at hm
 replace hm := hm (h1.sm kr)
 refine enter Try.func44 rfl (vals := [.slice a1 l_.length c1]) kr ?_
 intro Z a hS hO hM
 replace h1 := h1.m0 hM
 refine rPb T hS [(0, Sl a1 l_ c1)] fun a hS => ?_
 refine wseq ?_
 refine rPb T hS [(0, Sl a1 l_ c1), (10, B (decide ((lN l_) > 5000)))] fun a hS => ?_
 refine wcond hS (b := decide ((lN l_) > 5000)) kr (fun hb => ?_) fun hb => ?_
 ·replace hm := hm.1 hb
  refine rPb T hS [(2, I 0), (3, I 3)] fun a hS => ?_
  refine wret ?_
  exact fin T hS hO (fun c => c) rfl (r := [.int .i64 0, .int .i64 3]) kr (fun X' hM hC => ⟨(0, 3), hm, rfl⟩)
 replace hm := hm.2 hb
 refine wskip ?_
 refine wcut (fun a w => ∃ Z X, VC44_J1 l_ Q /\ St Try.f44.ntmps ⟨[(0, Sl a1 l_ c1)], []⟩ Z a w X /\ Old w0 X0 w X /\ RS tApi_Oper w X a1 l_ c1) ?_ ?_
 ·refine rPb T hS [(0, Sl a1 l_ c1), (4, I 0)] fun a hS => ?_
  refine wblock ?_
  obtain ⟨I1, μ1, hm0, hm⟩ := hm
  refine wloop (σ := Int) (fun s a w => ∃ Z X, I1 s /\ St Try.f44.ntmps ⟨[(0, Sl a1 l_ c1), (4, I s)], []⟩ Z a w X /\ Old w0 X0 w X /\ RS tApi_Oper w X a1 l_ c1) (fun s => μ1 s) (0) ?_ ?_
  ·exact ⟨Z, _, hm0, hS.sl _, hO, h1⟩
  rintro y103 a w155 ⟨Z, X154, hI, hS, hO, h102⟩
  replace hm := hm y103 hI
  clear hI hm0
  refine wseq ?_
  refine rPb T hS [(0, Sl a1 l_ c1), (4, I y103), (14, B (decide (y103 < (lN l_))))] fun a hS => ?_
  refine wcond hS (b := decide (y103 < (lN l_))) kr (fun hb => ?_) fun hb => ?_
  ·replace hm := hm.1 hb
   refine wskip (wseq ?_)
   refine wblock ?_
   refine regO ?_
   refine oPb T hS 2 [(0, Sl a1 l_ c1), (4, I y103), (17, Sl a1 l_ c1), (18, I y103)] fun a hS => ?_
   obtain ⟨hq, hm⟩ := hm
   refine op1 (index (e := 61) (k := .i64) T hS kr kr kr kr h102 kr kr hq.1 hq.2 ?_)
   intro A104 a h105 hS
   refine op1 (loadA T hS kr kr kr h105 kr kr ?_)
   intro v106 a hv hS
   subst hv
   refine eM T hS ⟨[(0, Sl a1 l_ c1), (4, I y103), (5, Pt 6 0)], [(6, (61, (cP (gi l_ y103))))]⟩ fun Z a w152 X153 hS hE hr => ?_
   replace hO := hO.m2 hE
   replace h102 := h102.m1 hE
   clear hE hr
   refine wseq ?_
   refine rPb T hS [(0, Sl a1 l_ c1), (4, I y103), (5, Pt 6 0), (38, B ((((decide (((gi l_ y103).Prc) < 1)) || (decide (((gi l_ y103).Prc) > 1000))) || (decide (((gi l_ y103).Start) < 0))) || (decide (((gi l_ y103).Start) > 9999))))] (sp := [24, 29, 34]) fun a hS => ?_
   refine wcond hS (b := ((((decide (((gi l_ y103).Prc) < 1)) || (decide (((gi l_ y103).Prc) > 1000))) || (decide (((gi l_ y103).Start) < 0))) || (decide (((gi l_ y103).Start) > 9999)))) kr (fun hb => ?_) fun hb => ?_
   ·replace hm := hm.1 hb
    refine rP T hS ⟨[(2, I y103), (3, I 2)], []⟩ fun a hS => ?_
    refine wret ?_
    exact fin T hS hO (fun c => c) rfl (r := [.int .i64 y103, .int .i64 2]) kr (fun X' hM hC => ⟨(y103, 2), hm, rfl⟩)
   replace hm := hm.2 hb
   refine wskip (wseq ?_)
   refine rPb T hS [(0, Sl a1 l_ c1), (4, I y103), (5, Pt 6 0), (47, B ((decide (((gi l_ y103).Kind) < 0)) || (decide (((gi l_ y103).Kind) > 63))))] (sp := [43]) fun a hS => ?_
   refine wcond hS (b := ((decide (((gi l_ y103).Kind) < 0)) || (decide (((gi l_ y103).Kind) > 63)))) kr (fun hb => ?_) fun hb => ?_
   ·replace hm := hm.1 hb
    refine rP T hS ⟨[(2, I y103), (3, I 31)], []⟩ fun a hS => ?_
    refine wret ?_
    exact fin T hS hO (fun c => c) rfl (r := [.int .i64 y103, .int .i64 31]) kr (fun X' hM hC => ⟨(y103, 31), hm, rfl⟩)
   replace hm := hm.2 hb
   refine wskip (wseq ?_)
   refine rPb T hS [(0, Sl a1 l_ c1), (4, I y103), (5, Pt 6 0), (83, B (((((gi l_ y103).End) == (-1)) && (((gi l_ y103).Result) != (-1))) || ((((gi l_ y103).End) != (-1)) && ((((decide (((gi l_ y103).End) ≤ ((gi l_ y103).Start))) || (decide (((gi l_ y103).End) > 9999))) || (decide (((gi l_ y103).Result) < 0))) || (decide (((gi l_ y103).Result) > 1000000))))))] (sp := [52, 57, 61, 67, 72, 77]) fun a hS => ?_
   refine wcond hS (b := (((((gi l_ y103).End) == (-1)) && (((gi l_ y103).Result) != (-1))) || ((((gi l_ y103).End) != (-1)) && ((((decide (((gi l_ y103).End) ≤ ((gi l_ y103).Start))) || (decide (((gi l_ y103).End) > 9999))) || (decide (((gi l_ y103).Result) < 0))) || (decide (((gi l_ y103).Result) > 1000000)))))) kr (fun hb => ?_) fun hb => ?_
   ·replace hm := hm.1 hb
    refine rP T hS ⟨[(2, I y103), (3, I 7)], []⟩ fun a hS => ?_
    refine wret ?_
    exact fin T hS hO (fun c => c) rfl (r := [.int .i64 y103, .int .i64 7]) kr (fun X' hM hC => ⟨(y103, 7), hm, rfl⟩)
   replace hm := hm.2 hb
   refine wskip ?_
   refine rPb T hS [(0, Sl a1 l_ c1), (4, I y103), (5, Pt 6 0), (6, B false)] fun a hS => ?_
   refine wcut (fun a w => ∃ (Z : Nat -> Nat) (X : Nat -> Nat) (y108 : Bool), VC44_J2 Q I1 μ1 y103 y108 /\ St Try.f44.ntmps ⟨[(0, Sl a1 l_ c1), (4, I y103), (6, B y108)], []⟩ Z a w X /\ Old w0 X0 w X /\ RS tApi_Oper w X a1 l_ c1) ?_ ?_
   ·refine rPb T hS [(0, Sl a1 l_ c1), (4, I y103), (5, Pt 6 0), (6, B false), (7, I 0)] fun a hS => ?_
    refine wblock ?_
    obtain ⟨I2, μ2, hm0, hm⟩ := hm
    refine wloop (σ := Bool × Int) (fun s a w => ∃ Z X, I2 s.1 s.2 /\ St Try.f44.ntmps ⟨[(0, Sl a1 l_ c1), (4, I y103), (5, Pt 6 0), (6, B s.1), (7, I s.2)], [(6, (61, (cP (gi l_ y103))))]⟩ Z a w X /\ Old w0 X0 w X /\ RS tApi_Oper w X a1 l_ c1) (fun s => μ2 s.1 s.2) (⟨false, 0⟩) ?_ ?_
    ·exact ⟨Z, _, hm0, hS.sl _, hO, h102⟩
    rintro ⟨y110, y111⟩ a w149 ⟨Z, X148, hI, hS, hO, h109⟩
    replace hm := hm y110 y111 hI
    clear hI hm0
    refine wseq ?_
    refine rPb T hS [(0, Sl a1 l_ c1), (4, I y103), (5, Pt 6 0), (6, B y110), (7, I y111), (87, B (decide (y111 < y103)))] fun a hS => ?_
    refine wcond hS (b := decide (y111 < y103)) kr (fun hb => ?_) fun hb => ?_
    ·replace hm := hm.1 hb
     refine wskip ?_
     refine wcut (fun a w => ∃ (Z : Nat -> Nat) (X : Nat -> Nat) (y113 : Bool), VC44_J3 I2 μ2 y110 y111 y113 /\ St Try.f44.ntmps ⟨[(0, Sl a1 l_ c1), (4, I y103), (5, Pt 6 0), (6, B y113), (7, I y111)], [(6, (61, (cP (gi l_ y103))))]⟩ Z a w X /\ Old w0 X0 w X /\ RS tApi_Oper w X a1 l_ c1) ?_ ?_
     ·refine wblock ?_
      refine wseq ?_
      refine wcut (fun a w => ∃ (Z : Nat -> Nat) (X : Nat -> Nat) (y115 : Bool), VC44_J4 l_ Q y103 I2 μ2 y110 y111 y115 /\ St Try.f44.ntmps ⟨[(0, Sl a1 l_ c1), (4, I y103), (5, Pt 6 0), (6, B y110), (7, I y111), (105, B y115)], [(6, (61, (cP (gi l_ y103))))]⟩ Z a w X /\ Old w0 X0 w X /\ RS tApi_Oper w X a1 l_ c1) ?_ ?_
      ·refine drawnX [6] mixed hS ?_
       intro w130 X131 hS hE hD hH
       replace hO := hO.m2 hE
       replace h109 := h109.m1 hE
       refine tkb T [0, 1, 5, 6] [6] hS hH #[true, true, false, false, false, true, true, false, false, false, false, false, false, false, false, false] 12 [(0, Sl a1 l_ c1), (4, I y103), (5, Pt 6 0), (6, B y110), (7, I y111), (90, Sl a1 l_ c1), (91, I y111), (96, I ((gi l_ y103).Start))] fun a hS => ?_
       obtain ⟨hq, hm⟩ := hm
       refine dindex (e := 61) (k := .i64) T 2 hS kr kr kr (by rfl) kr hH kr kr h109 kr kr hq.1 hq.2 ?_
       intro A132 a h133 hS
       have h133b := h133.here
       refine dfieldA (off := 2) (fsz := 1) (ft := 3) (TF := tI) (y := (gi l_ y111).Start) 3 T hS kr kr kr (by rfl) kr hH kr h133 kr kr kr (fun cs h => Api_Oper_f2 h) ?_
       intro A134 a h135 hbl hS
       have h135b := h133b
       rw [← hbl] at h135b
       clear hbl
       refine dload1 T 4 hS kr kr kr (by rfl) kr hH kr h135 h135b rfl kr ?_
       intro v136 a hv hS
       cases hv
       refine tkb T [7, 8] [6] hS hH #[true, true, true, true, true, true, true, true, true, false, false, false, false, false, false, false] 7 [(0, Sl a1 l_ c1), (4, I y103), (5, Pt 6 0), (6, B y110), (7, I y111), (98, B (decide (((gi l_ y111).Start) ≥ ((gi l_ y103).Start))))] fun a hS => ?_
       rcases bft (decide (((gi l_ y111).Start) ≥ ((gi l_ y103).Start))) with hb | hb
       ·replace hS := hS.lit (t := 98) kr hb
        replace hm := hm.1 hb
        refine tkb T [9, 10, 13, 11, 12, 14, 15] [6] hS hH (tts 16) 0 [(0, Sl a1 l_ c1), (4, I y103), (5, Pt 6 0), (6, B y110), (7, I y111), (105, B true)] fun a hS => ?_
        refine drawnDone kr ?_
        replace hS := hS.slb [(0, Sl a1 l_ c1), (4, I y103), (5, Pt 6 0), (6, B y110), (7, I y111), (105, B true)]
        exact ⟨Z, _, true, hm, hS.sl _, hO, h109⟩
       replace hS := hS.lit (t := 98) kr hb
       replace hm := hm.2 hb
       refine tkb T [9, 10, 13] [6] hS hH #[true, true, true, true, true, true, true, true, true, true, true, false, false, true, false, false] 4 [(0, Sl a1 l_ c1), (4, I y103), (5, Pt 6 0), (6, B y110), (7, I y111), (98, B false), (99, Sl a1 l_ c1), (100, I y111), (103, V (.agg #[.int .i64 ((gi l_ y103).Prc), .int .i64 ((gi l_ y103).Kind), .int .i64 ((gi l_ y103).Start), .int .i64 ((gi l_ y103).End), .int .i64 ((gi l_ y103).Result)]))] fun a hS => ?_
       obtain ⟨hq, hm⟩ := hm
       refine dindex (e := 61) (k := .i64) T 11 hS kr kr kr (by rfl) kr hH kr kr h109 kr kr hq.1 hq.2 ?_
       intro A137 a h138 hS
       have h138b := h138.here
       refine dloadA T 12 hS kr kr kr (by rfl) kr hH kr h138 h138b kr kr ?_
       intro v139 a hv hS
       subst hv
       refine only 14 kr (by rfl) (call hS kr kr hb57 kr (fun _ _ => rfl) (k57 _ _ (gi l_ y111) (gi l_ y103)) ?_)
       intro v140 a w141 X142 hE hp hS
       replace hO := hO.m2 hE
       replace hD := hD.ev hE rfl
       replace h109 := h109.m1 hE
       replace h133 := h133.m1 hE
       replace h135 := h135.m1 hE
       replace h138 := h138.m1 hE
       obtain ⟨r143, hr⟩ : ∃ r, ref27_meets (gi l_ y111) (gi l_ y103) = r := ⟨_, rfl⟩
       replace hm := hm r143 hr
       rw [hr] at hp
       clear hr
       subst hp
       replace hS := hS.slb [(0, Sl a1 l_ c1), (4, I y103), (5, Pt 6 0), (6, B y110), (7, I y111), (98, B false), (99, Sl a1 l_ c1), (100, I y111), (103, V (.agg #[.int .i64 ((gi l_ y103).Prc), .int .i64 ((gi l_ y103).Kind), .int .i64 ((gi l_ y103).Start), .int .i64 ((gi l_ y103).End), .int .i64 ((gi l_ y103).Result)])), (101, V (.pointer (some A137))), (102, V (.agg #[.int .i64 ((gi l_ y111).Prc), .int .i64 ((gi l_ y111).Kind), .int .i64 ((gi l_ y111).Start), .int .i64 ((gi l_ y111).End), .int .i64 ((gi l_ y111).Result)])), (104, B r143)]
       refine andH (Hold.of hS (bks := [6]) kr hD) ?_
       intro hH
       refine tkb T [15] [6] hS hH (tts 16) 0 [(0, Sl a1 l_ c1), (4, I y103), (5, Pt 6 0), (6, B y110), (7, I y111), (105, B r143)] fun a hS => ?_
       refine drawnDone kr ?_
       replace hS := hS.slb [(0, Sl a1 l_ c1), (4, I y103), (5, Pt 6 0), (6, B y110), (7, I y111), (105, B r143)]
       exact ⟨Z, _, r143, hm, hS.sl _, hO, h109⟩
      rintro a w145 ⟨Z, X144, y115, hm, hS, hO, h114⟩
      unfold VC44_J4 at hm
      refine wcond hS (b := y115) kr (fun hb => ?_) fun hb => ?_
      ·replace hm := hm.1 hb
       refine rP T hS ⟨[(2, I y103), (3, I 32)], []⟩ fun a hS => ?_
       refine wret ?_
       exact fin T hS hO (fun c => c) rfl (r := [.int .i64 y103, .int .i64 32]) kr (fun X' hM hC => ⟨(y103, 32), hm, rfl⟩)
      replace hm := hm.2 hb
      refine wskip ?_
      refine drawnX [6] mixed hS ?_
      intro w116 X117 hS hE hD hH
      replace hO := hO.m2 hE
      replace h114 := h114.m1 hE
      refine tkb T [0, 1] [6] hS hH #[true, true, false, false, false, false, false, false, false, false, false, false, false, false, false, false, false, false, false, false, false] 19 [(0, Sl a1 l_ c1), (4, I y103), (5, Pt 6 0), (6, B y110), (7, I y111), (108, B y110)] fun a hS => ?_
      rcases bft y110 with hb | hb
      ·replace hS := hS.lit (t := 108) kr hb
       replace hm := hm.1 hb
       refine tkb T [2, 3, 7, 4, 8, 5, 6, 9, 10, 11, 12, 15, 13, 14, 16, 17, 18, 19, 20] [6] hS hH (tts 21) 0 [(0, Sl a1 l_ c1), (4, I y103), (5, Pt 6 0), (6, B true), (7, I y111)] fun a hS => ?_
       refine drawnDone kr ?_
       replace hS := hS.slb [(0, Sl a1 l_ c1), (4, I y103), (5, Pt 6 0), (6, B true), (7, I y111)]
       exact ⟨Z, _, true, hm, hS.sl _, hO, h114⟩
      replace hS := hS.lit (t := 108) kr hb
      replace hm := hm.2 hb
      refine tkb T [2, 3, 7, 8] [6] hS hH #[true, true, true, true, false, false, false, true, true, false, false, false, false, false, false, false, false, false, false, false, false] 15 [(0, Sl a1 l_ c1), (4, I y103), (5, Pt 6 0), (6, B y110), (7, I y111), (108, B false), (109, Sl a1 l_ c1), (110, I y111), (115, I ((gi l_ y103).Prc))] fun a hS => ?_
      obtain ⟨hq, hm⟩ := hm
      refine dindex (e := 61) (k := .i64) T 4 hS kr kr kr (by rfl) kr hH kr kr h114 kr kr hq.1 hq.2 ?_
      intro A118 a h119 hS
      have h119b := h119.here
      refine dfieldA (off := 0) (fsz := 1) (ft := 3) (TF := tI) (y := (gi l_ y111).Prc) 5 T hS kr kr kr (by rfl) kr hH kr h119 kr kr kr (fun cs h => Api_Oper_f0 h) ?_
      intro A120 a h121 hbl hS
      have h121b := h119b
      rw [← hbl] at h121b
      clear hbl
      refine dload1 T 6 hS kr kr kr (by rfl) kr hH kr h121 h121b rfl kr ?_
      intro v122 a hv hS
      cases hv
      refine tkb T [9, 10] [6] hS hH #[true, true, true, true, true, true, true, true, true, true, true, false, false, false, false, false, false, false, false, false, false] 10 [(0, Sl a1 l_ c1), (4, I y103), (5, Pt 6 0), (6, B y110), (7, I y111), (108, B false), (117, B (((gi l_ y111).Prc) == ((gi l_ y103).Prc)))] fun a hS => ?_
      rcases bft (((gi l_ y111).Prc) == ((gi l_ y103).Prc)) with hb | hb
      ·replace hS := hS.lit (t := 117) kr hb
       replace hm := hm.1 hb
       refine tkb T [11, 12, 15] [6] hS hH #[true, true, true, true, true, true, true, true, true, true, true, true, true, false, false, true, false, false, false, false, false] 7 [(0, Sl a1 l_ c1), (4, I y103), (5, Pt 6 0), (6, B y110), (7, I y111), (108, B false), (117, B true), (118, Sl a1 l_ c1), (119, I y111), (122, V (.agg #[.int .i64 ((gi l_ y103).Prc), .int .i64 ((gi l_ y103).Kind), .int .i64 ((gi l_ y103).Start), .int .i64 ((gi l_ y103).End), .int .i64 ((gi l_ y103).Result)]))] fun a hS => ?_
       obtain ⟨hq, hm⟩ := hm
       refine dindex (e := 61) (k := .i64) T 13 hS kr kr kr (by rfl) kr hH kr kr h114 kr kr hq.1 hq.2 ?_
       intro A123 a h124 hS
       have h124b := h124.here
       refine dloadA T 14 hS kr kr kr (by rfl) kr hH kr h124 h124b kr kr ?_
       intro v125 a hv hS
       subst hv
       refine only 16 kr (by rfl) (call hS kr kr hb58 kr (fun _ _ => rfl) (k58 _ _ (gi l_ y111) (gi l_ y103)) ?_)
       intro v126 a w127 X128 hE hp hS
       replace hO := hO.m2 hE
       replace hD := hD.ev hE rfl
       replace h114 := h114.m1 hE
       replace h119 := h119.m1 hE
       replace h121 := h121.m1 hE
       replace h124 := h124.m1 hE
       obtain ⟨r129, hr⟩ : ∃ r, ref27_Ahead (gi l_ y111) (gi l_ y103) = r := ⟨_, rfl⟩
       replace hm := hm r129 hr
       rw [hr] at hp
       clear hr
       subst hp
       replace hS := hS.slb [(0, Sl a1 l_ c1), (4, I y103), (5, Pt 6 0), (6, B y110), (7, I y111), (108, B false), (117, B true), (118, Sl a1 l_ c1), (119, I y111), (122, V (.agg #[.int .i64 ((gi l_ y103).Prc), .int .i64 ((gi l_ y103).Kind), .int .i64 ((gi l_ y103).Start), .int .i64 ((gi l_ y103).End), .int .i64 ((gi l_ y103).Result)])), (120, V (.pointer (some A123))), (121, V (.agg #[.int .i64 ((gi l_ y111).Prc), .int .i64 ((gi l_ y111).Kind), .int .i64 ((gi l_ y111).Start), .int .i64 ((gi l_ y111).End), .int .i64 ((gi l_ y111).Result)])), (123, B r129)]
       refine andH (Hold.of hS (bks := [6]) kr hD) ?_
       intro hH
       refine tkb T [17, 18, 19, 20] [6] hS hH (tts 21) 0 [(0, Sl a1 l_ c1), (4, I y103), (5, Pt 6 0), (6, B (!r129)), (7, I y111)] fun a hS => ?_
       refine drawnDone kr ?_
       replace hS := hS.slb [(0, Sl a1 l_ c1), (4, I y103), (5, Pt 6 0), (6, B (!r129)), (7, I y111)]
       exact ⟨Z, _, (!r129), hm, hS.sl _, hO, h114⟩
      replace hS := hS.lit (t := 117) kr hb
      replace hm := hm.2 hb
      refine tkb T [11, 12, 15, 13, 14, 16, 17, 18, 19, 20] [6] hS hH (tts 21) 0 [(0, Sl a1 l_ c1), (4, I y103), (5, Pt 6 0), (6, B false), (7, I y111)] fun a hS => ?_
      refine drawnDone kr ?_
      replace hS := hS.slb [(0, Sl a1 l_ c1), (4, I y103), (5, Pt 6 0), (6, B false), (7, I y111)]
      exact ⟨Z, _, false, hm, hS.sl _, hO, h114⟩
     rintro a w147 ⟨Z, X146, y113, hm, hS, hO, h112⟩
     unfold VC44_J3 at hm
     refine region (ePb T hS [(0, Sl a1 l_ c1), (4, I y103), (5, Pt 6 0), (6, B y113), (7, I (wR (y111 + 1)))] fun a hS => ?_)
     exact ⟨⟨y113, wR (y111 + 1)⟩, ⟨Z, _, hm.1, hS.sl _, hO, h112⟩, hm.2⟩
    replace hm := hm.2 hb
    refine wexit (by rfl) ?_
    exact ⟨Z, _, y110, hm, hS.sl _, hO, h109⟩
   rintro a w151 ⟨Z, X150, y108, hm, hS, hO, h107⟩
   unfold VC44_J2 at hm
   refine rPb T hS [(0, Sl a1 l_ c1), (4, I y103), (127, B y108)] fun a hS => ?_
   refine wcond hS (b := y108) kr (fun hb => ?_) fun hb => ?_
   ·replace hm := hm.1 hb
    refine rPb T hS [(2, I y103), (3, I 33)] fun a hS => ?_
    refine wret ?_
    exact fin T hS hO (fun c => c) rfl (r := [.int .i64 y103, .int .i64 33]) kr (fun X' hM hC => ⟨(y103, 33), hm, rfl⟩)
   replace hm := hm.2 hb
   refine wskip ?_
   refine region (ePb T hS [(0, Sl a1 l_ c1), (4, I (wR (y103 + 1)))] fun a hS => ?_)
   exact ⟨wR (y103 + 1), ⟨Z, _, hm.1, hS.sl _, hO, h107⟩, hm.2⟩
  replace hm := hm.2 hb
  refine wexit (by rfl) ?_
  exact ⟨Z, _, hm, hS.sl _, hO, h102⟩
 rintro a w157 ⟨Z, X156, hm, hS, hO, h101⟩
 unfold VC44_J1 at hm
 refine rPb T hS [(2, I (lN l_)), (3, I 0)] fun a hS => ?_
 refine wret ?_
 exact fin T hS hO (fun c => c) rfl (r := [.int .i64 (lN l_), .int .i64 0]) kr (fun X' hM hC => ⟨((lN l_), 0), hm, rfl⟩)
theorem C44 (k57 : S57) (k58 : S58) (v : ∀ (l_ : List Api_Oper), VC44 l_ (fun r => r = ref27_Check l_)) : S44 := by
 intro w X l_ a1 c1   h1
 refine (W44 k57 k58 w X l_ a1 c1   _ (v l_) h1).mono ?_
 rintro _ _ _ _ ⟨r, rfl, h⟩
 exact h
theorem W28 (k41 : S41) (k44 : S44) (w0) (X0) (o_ : Api_Object) (l_ : List Api_Oper) (most : Int) (a1) (c1) (a2) (c2) (Q : Int -> Prop) (hm : VC28 o_ l_ most Q) (h1 : RS tApi_Row w0 X0 a1 o_.Rows c1) (h2 : RS tApi_Oper w0 X0 a2 l_ c2) :
  Ret Try.prog 28 #[.agg #[.int .i64 o_.States, .int .i64 o_.Kinds, .int .i64 o_.Init, .slice a1 o_.Rows.length c1], .slice a2 l_.length c2, .int .i64 most] xnone w0 X0 (fun w X' v => ∃ r, Q r /\ v = .int .i64 r) := by
 unfold VC28 at hm
 replace hm := hm (h1.sm kr)
 replace hm := hm (h2.sm kr)
 refine enter Try.func28 rfl (vals := [.agg #[.int .i64 o_.States, .int .i64 o_.Kinds, .int .i64 o_.Init, .slice a1 o_.Rows.length c1], .slice a2 l_.length c2, .int .i64 most]) kr ?_
 intro Z a hS hO hM
 replace h1 := h1.m0 hM
 replace h2 := h2.m0 hM
 refine rM T hS ⟨[(1, Sl a2 l_ c2), (2, I most), (3, Pt 4 0)], [(4, (24, (cO o_ a1 c1)))]⟩ fun Z a w109 X110 hS hE hr => ?_
 replace hO := hO.m2 hE
 replace h1 := h1.m1 hE
 replace h2 := h2.m1 hE
 clear hE hr
 refine regO ?_
 refine oP T hS 1 ⟨[(1, Sl a2 l_ c2), (2, I most), (12, V (.agg #[.int .i64 o_.States, .int .i64 o_.Kinds, .int .i64 o_.Init, .slice a1 o_.Rows.length c1]))], []⟩ fun a hS => ?_
 refine op1 (call hS kr kr hb41 kr (fun _ _ => rfl) (k41 _ _ o_ a1 c1 h1) ?_)
 intro v101 a w102 X103 hE hp hS
 replace hO := hO.m2 hE
 replace h1 := h1.m1 hE
 replace h2 := h2.m1 hE
 obtain ⟨r104, hr⟩ : ∃ r, ref23_Check o_ = r := ⟨_, rfl⟩
 replace hm := hm r104 hr
 rw [hr] at hp
 clear hr
 subst hp
 refine ePb T hS [(1, Sl a2 l_ c2), (2, I most), (8, I r104.2)] fun a hS => ?_
 refine regO ?_
 refine oPb T hS 1 [(1, Sl a2 l_ c2), (2, I most), (8, I r104.2), (17, Sl a2 l_ c2)] fun a hS => ?_
 refine op1 (call hS kr kr hb44 kr (fun _ _ => rfl) (k44 _ _ l_ a2 c2 h2) ?_)
 intro v105 a w106 X107 hE hp hS
 replace hO := hO.m2 hE
 replace h2 := h2.m1 hE
 obtain ⟨r108, hr⟩ : ∃ r, ref27_Check l_ = r := ⟨_, rfl⟩
 replace hm := hm r108 hr
 rw [hr] at hp
 clear hr
 subst hp
 refine ePb T hS [(1, Sl a2 l_ c2), (2, I most), (8, I r104.2), (10, I r108.2)] fun a hS => ?_
 refine wseq ?_
 refine rPb T hS [(1, Sl a2 l_ c2), (2, I most), (26, B ((r104.2 != 0) || (r108.2 != 0)))] (sp := [23]) fun a hS => ?_
 refine wcond hS (b := ((r104.2 != 0) || (r108.2 != 0))) kr (fun hb => ?_) fun hb => ?_
 ·replace hm := hm.1 hb
  refine rPb T hS [(6, I 2)] fun a hS => ?_
  refine wret ?_
  exact fin T hS hO (fun c => c) rfl (r := [.int .i64 2]) kr (fun X' hM hC => ⟨2, hm, rfl⟩)
 replace hm := hm.2 hb
 refine wskip (wseq ?_)
 refine rPb T hS [(30, B (decide ((lN l_) > most)))] fun a hS => ?_
 refine wcond hS (b := decide ((lN l_) > most)) kr (fun hb => ?_) fun hb => ?_
 ·replace hm := hm.1 hb
  refine rPb T hS [(6, I 3)] fun a hS => ?_
  refine wret ?_
  exact fin T hS hO (fun c => c) rfl (r := [.int .i64 3]) kr (fun X' hM hC => ⟨3, hm, rfl⟩)
 replace hm := hm.2 hb
 refine wskip ?_
 refine rPb T hS [(6, I 0)] fun a hS => ?_
 refine wret ?_
 exact fin T hS hO (fun c => c) rfl (r := [.int .i64 0]) kr (fun X' hM hC => ⟨0, hm, rfl⟩)
theorem C28 (k41 : S41) (k44 : S44) (v : ∀ (o_ : Api_Object) (l_ : List Api_Oper) (most : Int), VC28 o_ l_ most (fun r => r = ref30_Check o_ l_ most)) : S28 := by
 intro w X o_ l_ most a1 c1 a2 c2   h1 h2
 refine (W28 k41 k44 w X o_ l_ most a1 c1 a2 c2   _ (v o_ l_ most) h1 h2).mono ?_
 rintro _ _ _ _ ⟨r, rfl, h⟩
 exact h
end Go.Proofs.Ytojdelnnjhbgbaa
