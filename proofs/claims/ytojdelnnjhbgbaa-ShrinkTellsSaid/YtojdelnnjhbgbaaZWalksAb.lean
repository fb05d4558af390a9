/- Walks: each function returns what its condition asks. Condition: the contracts of its callees, handed in. -/
import Derived.Test.YtojdelnnjhbgbaaZWalksS
set_option linter.all false
namespace Go.Proofs.Ytojdelnnjhbgbaa
open Go Go.Sv
abbrev zAb0 (col1 : Nat) : Nat -> Nat := fun c => (bif Nat.beq c 1009 then col1 else c)
abbrev zAb1 (col1 : Nat) : Nat -> Nat := fun c => (bif Nat.beq c 1003 then col1 else c)
set_option maxHeartbeats 1000000
theorem W81 (k76 : S76) (w0) (X0) (l_ : List Api_Oper) (picks : List Api_Pick) (a1) (c1) (a2) (c2) (Q : Int -> Prop) (hm : VC81 l_ picks Q) (h1 : RS tApi_Oper w0 X0 a1 l_ c1) (h2 : RS tApi_Pick w0 X0 a2 picks c2) :
  Ret Try.prog 81 #[.slice a1 l_.length c1, .slice a2 picks.length c2] xnone w0 X0 (fun w X' v => ∃ r, Q r /\ v = .int .i64 r) := by
 unfold VC81 at hm
 replace hm := hm (h1.sm kr)
 replace hm := hm (h2.sm kr)
 refine enter Try.func81 rfl (vals := [.slice a1 l_.length c1, .slice a2 picks.length c2]) kr ?_
 intro Z a hS hO hM
 replace h1 := h1.m0 hM
 replace h2 := h2.m0 hM
 refine rPb T hS [(0, Sl a1 l_ c1), (1, Sl a2 picks c2)] fun a hS => ?_
 refine wscope (by rfl) ?_
 refine regO ?_
 refine op1 (mkmap kI tI false 1011 hS kr kr ?_)
 intro r101 a w102 X103 hE h104 hS
 replace hO := hO.m2 hE
 replace h1 := h1.m1 hE
 replace h2 := h2.m1 hE
 refine ePb T hS [(0, Sl a1 l_ c1), (1, Sl a2 picks c2), (5, V (.map (some r101)))] fun a hS => ?_
 refine wseq ?_
 refine wlabel ?_
 refine wcut (fun a w => ∃ Z X, VC81_J1 Q /\ St Try.f81.ntmps ⟨[], []⟩ Z a w X /\ Old w0 X0 w X) ?_ ?_
 ·refine rPb T hS [(0, Sl a1 l_ c1), (5, V (.map (some r101))), (11, Sl a2 picks c2), (12, I (lN picks)), (13, I 0)] fun a hS => ?_
  refine wblock ?_
  obtain ⟨I1, μ1, hm0, hm⟩ := hm
  refine wloop (σ := (List (Int × Int)) × Int) (fun s a w => ∃ Z X, I1 s.1 s.2 /\ St Try.f81.ntmps ⟨[(0, Sl a1 l_ c1), (5, V (.map (some r101))), (11, Sl a2 picks c2), (12, I (lN picks)), (13, I s.2)], []⟩ Z a w X /\ Old w0 X0 w X /\ RS tApi_Oper w X a1 l_ c1 /\ OM kI tI false w X 1011 r101 s.1 /\ RS tApi_Pick w X a2 picks c2) (fun s => μ1 s.1 s.2) (⟨([] : List (Int × Int)), 0⟩) ?_ ?_
  ·exact ⟨Z, _, hm0, hS.sl _, hO, h1, h104, h2⟩
  rintro ⟨y106, y109⟩ a w159 ⟨Z, X158, hI, hS, hO, h105, h107, h108⟩
  replace hm := hm y106 y109 hI
  clear hI hm0
  refine rPb T hS [(0, Sl a1 l_ c1), (5, V (.map (some r101))), (11, Sl a2 picks c2), (12, I (lN picks)), (13, I y109), (14, B (decide (y109 < (lN picks))))] fun a hS => ?_
  refine wseq ?_
  refine wcond hS (b := decide (y109 < (lN picks))) kr (fun hb => ?_) fun hb => ?_
  ·replace hm := hm.1 hb
   refine wskip ?_
   refine wcut (fun a w => ∃ (Z : Nat -> Nat) (X : Nat -> Nat) (y111 : List (Int × Int)), VC81_J2 I1 μ1 y106 y109 y111 /\ St Try.f81.ntmps ⟨[(0, Sl a1 l_ c1), (5, V (.map (some r101))), (11, Sl a2 picks c2), (12, I (lN picks)), (13, I y109)], []⟩ Z a w X /\ Old w0 X0 w X /\ RS tApi_Oper w X a1 l_ c1 /\ OM kI tI false w X 1011 r101 y111 /\ RS tApi_Pick w X a2 picks c2) ?_ ?_
   ·refine wblock ?_
    refine regO ?_
    refine oPb T hS 1 [(0, Sl a1 l_ c1), (5, V (.map (some r101))), (11, Sl a2 picks c2), (12, I (lN picks)), (13, I y109), (15, I y109)] fun a hS => ?_
    obtain ⟨hq, hm⟩ := hm
    refine op1 (index (e := 109) (k := .i64) T hS kr kr kr kr h108 kr kr hq.1 hq.2 ?_)
    intro A114 a h115 hS
    refine op1 (loadA T hS kr kr kr h115 kr kr ?_)
    intro v116 a hv hS
    subst hv
    refine eM T hS ⟨[(0, Sl a1 l_ c1), (5, V (.map (some r101))), (6, I y109), (7, Pt 8 0), (11, Sl a2 picks c2), (12, I (lN picks)), (13, I y109)], [(8, (109, (cK (gi picks y109))))]⟩ fun Z a w154 X155 hS hE hr => ?_
    replace hO := hO.m2 hE
    replace h105 := h105.m1 hE
    replace h107 := h107.m2 hE
    replace h108 := h108.m1 hE
    clear hE hr
    refine wseq ?_
    refine rPb T hS [(0, Sl a1 l_ c1), (5, V (.map (some r101))), (6, I y109), (7, Pt 8 0), (11, Sl a2 picks c2), (12, I (lN picks)), (13, I y109), (27, B ((decide (((gi picks y109).Oper) < 0)) || (decide (((gi picks y109).Oper) ≥ (lN l_)))))] (sp := [21]) fun a hS => ?_
    refine wcond hS (b := ((decide (((gi picks y109).Oper) < 0)) || (decide (((gi picks y109).Oper) ≥ (lN l_))))) kr (fun hb => ?_) fun hb => ?_
    ·replace hm := hm.1 hb
     refine wexit (by rfl) ?_
     exact ⟨Z, _, y106, hm, hS.sl _, hO, h105, h107, h108⟩
    replace hm := hm.2 hb
    refine wskip ?_
    refine wcut (fun a w => ∃ Z X, VC81_J3 picks I1 μ1 y106 y109 /\ St Try.f81.ntmps ⟨[(0, Sl a1 l_ c1), (5, V (.map (some r101))), (7, Pt 8 0), (11, Sl a2 picks c2), (12, I (lN picks)), (13, I y109)], [(8, (109, (cK (gi picks y109))))]⟩ Z a w X /\ Old w0 X0 w X /\ RS tApi_Oper w X a1 l_ c1 /\ OM kI tI false w X 1011 r101 y106 /\ RS tApi_Pick w X a2 picks c2) ?_ ?_
    ·refine rPb T hS [(0, Sl a1 l_ c1), (5, V (.map (some r101))), (6, I y109), (7, Pt 8 0), (11, Sl a2 picks c2), (12, I (lN picks)), (13, I y109), (28, Sl a1 l_ c1), (29, I (lN l_)), (30, I 0)] fun a hS => ?_
     refine wblock ?_
     obtain ⟨I2, μ2, hm0, hm⟩ := hm
     refine wloop (σ := Int) (fun s a w => ∃ Z X, I2 s /\ St Try.f81.ntmps ⟨[(0, Sl a1 l_ c1), (5, V (.map (some r101))), (6, I y109), (7, Pt 8 0), (11, Sl a2 picks c2), (12, I (lN picks)), (13, I y109), (28, Sl a1 l_ c1), (29, I (lN l_)), (30, I s)], [(8, (109, (cK (gi picks y109))))]⟩ Z a w X /\ Old w0 X0 w X /\ RS tApi_Oper w X a1 l_ c1 /\ OM kI tI false w X 1011 r101 y106 /\ RS tApi_Pick w X a2 picks c2 /\ RS tApi_Oper w X a1 l_ c1) (fun s => μ2 s) (0) ?_ ?_
     ·exact ⟨Z, _, hm0, hS.sl _, hO, h105, h107, h108, h105⟩
     rintro y127 a w151 ⟨Z, X150, hI, hS, hO, h123, h124, h125, h126⟩
     replace hm := hm y127 hI
     clear hI hm0
     refine rPb T hS [(0, Sl a1 l_ c1), (5, V (.map (some r101))), (6, I y109), (7, Pt 8 0), (11, Sl a2 picks c2), (12, I (lN picks)), (13, I y109), (28, Sl a1 l_ c1), (29, I (lN l_)), (30, I y127), (31, B (decide (y127 < (lN l_))))] fun a hS => ?_
     refine wseq ?_
     refine wcond hS (b := decide (y127 < (lN l_))) kr (fun hb => ?_) fun hb => ?_
     ·replace hm := hm.1 hb
      refine wskip (wseq ?_)
      refine wblock ?_
      refine regO ?_
      refine oPb T hS 1 [(0, Sl a1 l_ c1), (5, V (.map (some r101))), (6, I y109), (7, Pt 8 0), (11, Sl a2 picks c2), (12, I (lN picks)), (13, I y109), (28, Sl a1 l_ c1), (29, I (lN l_)), (30, I y127), (32, I y127)] fun a hS => ?_
      obtain ⟨hq, hm⟩ := hm
      refine op1 (index (e := 61) (k := .i64) T hS kr kr kr kr h126 kr kr hq.1 hq.2 ?_)
      intro A128 a h129 hS
      refine op1 (loadA T hS kr kr kr h129 kr kr ?_)
      intro v130 a hv hS
      subst hv
      refine eM T hS ⟨[(0, Sl a1 l_ c1), (5, V (.map (some r101))), (6, I y109), (7, Pt 8 0), (8, I y127), (9, Pt 10 0), (11, Sl a2 picks c2), (12, I (lN picks)), (13, I y109), (28, Sl a1 l_ c1), (29, I (lN l_)), (30, I y127)], [(8, (109, (cK (gi picks y109)))), (10, (61, (cP (gi l_ y127))))]⟩ fun Z a w148 X149 hS hE hr => ?_
      replace hO := hO.m2 hE
      replace h123 := h123.m1 hE
      replace h124 := h124.m2 hE
      replace h125 := h125.m1 hE
      replace h126 := h126.m1 hE
      clear hE hr
      refine wcut (fun a w => ∃ (Z : Nat -> Nat) (X : Nat -> Nat) (y135 : Bool), VC81_J4 Q y109 I2 μ2 y127 y135 /\ St Try.f81.ntmps ⟨[(0, Sl a1 l_ c1), (5, V (.map (some r101))), (6, I y109), (7, Pt 8 0), (11, Sl a2 picks c2), (12, I (lN picks)), (13, I y109), (28, Sl a1 l_ c1), (29, I (lN l_)), (30, I y127), (47, B y135)], [(8, (109, (cK (gi picks y109))))]⟩ Z a w X /\ Old w0 X0 w X /\ RS tApi_Oper w X a1 l_ c1 /\ OM kI tI false w X 1011 r101 y106 /\ RS tApi_Pick w X a2 picks c2 /\ RS tApi_Oper w X a1 l_ c1) ?_ ?_
      ·refine drawnX [8, 10] mixed hS ?_
       intro w136 X137 hS hE hD hH
       replace hO := hO.m2 hE
       replace h123 := h123.m1 hE
       replace h124 := h124.m2 hE
       replace h125 := h125.m1 hE
       replace h126 := h126.m1 hE
       refine tkb T [0, 1, 2, 3] [8, 10] hS hH #[true, true, true, true, false, false, false, false, false, false, false, false, false] 9 [(0, Sl a1 l_ c1), (5, V (.map (some r101))), (6, I y109), (7, Pt 8 0), (8, I y127), (11, Sl a2 picks c2), (12, I (lN picks)), (13, I y109), (28, Sl a1 l_ c1), (29, I (lN l_)), (30, I y127), (35, V (.agg #[.int .i64 ((gi l_ y127).Prc), .int .i64 ((gi l_ y127).Kind), .int .i64 ((gi l_ y127).Start), .int .i64 ((gi l_ y127).End), .int .i64 ((gi l_ y127).Result)])), (36, Sl a1 l_ c1), (38, I ((gi picks y109).Oper))] fun a hS => ?_
       obtain ⟨hq, hm⟩ := hm
       refine dindex (e := 61) (k := .i64) T 4 hS kr kr kr (by rfl) kr hH kr kr h123 kr kr hq.1 hq.2 ?_
       intro A138 a h139 hS
       have h139b := h139.here
       refine dloadA T 5 hS kr kr kr (by rfl) kr hH kr h139 h139b kr kr ?_
       intro v140 a hv hS
       subst hv
       refine only 6 kr (by rfl) (call hS kr kr hb76 kr (fun _ _ => rfl) (k76 _ _ (gi l_ y127) (gi l_ ((gi picks y109).Oper))) ?_)
       intro v141 a w142 X143 hE hp hS
       replace hO := hO.m2 hE
       replace hD := hD.ev hE rfl
       replace h123 := h123.m1 hE
       replace h124 := h124.m2 hE
       replace h125 := h125.m1 hE
       replace h126 := h126.m1 hE
       replace h139 := h139.m1 hE
       obtain ⟨r144, hr⟩ : ∃ r, oper_Ahead (gi l_ y127) (gi l_ ((gi picks y109).Oper)) = r := ⟨_, rfl⟩
       replace hm := hm r144 hr
       rw [hr] at hp
       clear hr
       subst hp
       replace hS := hS.slb [(0, Sl a1 l_ c1), (5, V (.map (some r101))), (6, I y109), (7, Pt 8 0), (8, I y127), (11, Sl a2 picks c2), (12, I (lN picks)), (13, I y109), (28, Sl a1 l_ c1), (29, I (lN l_)), (30, I y127), (35, V (.agg #[.int .i64 ((gi l_ y127).Prc), .int .i64 ((gi l_ y127).Kind), .int .i64 ((gi l_ y127).Start), .int .i64 ((gi l_ y127).End), .int .i64 ((gi l_ y127).Result)])), (36, Sl a1 l_ c1), (38, I ((gi picks y109).Oper)), (39, V (.pointer (some A138))), (40, V (.agg #[.int .i64 ((gi l_ ((gi picks y109).Oper)).Prc), .int .i64 ((gi l_ ((gi picks y109).Oper)).Kind), .int .i64 ((gi l_ ((gi picks y109).Oper)).Start), .int .i64 ((gi l_ ((gi picks y109).Oper)).End), .int .i64 ((gi l_ ((gi picks y109).Oper)).Result)])), (41, B r144)]
       refine andH (Hold.of hS (bks := [8, 10]) kr hD) ?_
       intro hH
       refine tkb T [7] [8, 10] hS hH #[true, true, true, true, true, true, true, true, false, false, false, false, false] 5 [(0, Sl a1 l_ c1), (5, V (.map (some r101))), (6, I y109), (7, Pt 8 0), (8, I y127), (11, Sl a2 picks c2), (12, I (lN picks)), (13, I y109), (28, Sl a1 l_ c1), (29, I (lN l_)), (30, I y127), (42, B r144)] fun a hS => ?_
       rcases bft r144 with hb | hb
       ·replace hS := hS.lit (t := 42) kr hb
        replace hm := hm.1 hb
        refine tkb T [8, 9] [8, 10] hS hH #[true, true, true, true, true, true, true, true, true, true, false, false, false] 3 [(0, Sl a1 l_ c1), (5, V (.map (some r101))), (6, I y109), (7, Pt 8 0), (11, Sl a2 picks c2), (12, I (lN picks)), (13, I y109), (28, Sl a1 l_ c1), (29, I (lN l_)), (30, I y127), (42, B true), (43, V (.map (some r101))), (44, I y127)] fun a hS => ?_
        refine only 10 kr (by rfl) (mlook kI tI false (zv := .int .i64 0) (z := 0) y127 hS kr kr kr kr Try.underlying59 Try.underlying3 kr rfl h124 ?_)
        intro v145 a hv hS
        replace hv : tI.R _ _ [v145] _ := hv
        cases hv
        refine andH (Hold.of hS (bks := [8, 10]) kr hD) ?_
        intro hH
        refine tkb T [11, 12] [8, 10] hS hH (tts 13) 0 [(0, Sl a1 l_ c1), (5, V (.map (some r101))), (6, I y109), (7, Pt 8 0), (11, Sl a2 picks c2), (12, I (lN picks)), (13, I y109), (28, Sl a1 l_ c1), (29, I (lN l_)), (30, I y127), (47, B (((mget y106 y127).getD 0) == 0))] fun a hS => ?_
        refine drawnDone kr ?_
        replace hS := hS.sl ⟨[(0, Sl a1 l_ c1), (5, V (.map (some r101))), (6, I y109), (7, Pt 8 0), (11, Sl a2 picks c2), (12, I (lN picks)), (13, I y109), (28, Sl a1 l_ c1), (29, I (lN l_)), (30, I y127), (47, B (((mget y106 y127).getD 0) == 0))], [(8, (109, (cK (gi picks y109))))]⟩
        exact ⟨Z, _, (((mget y106 y127).getD 0) == 0), hm, hS.sl _, hO, h123, h124, h125, h126⟩
       replace hS := hS.lit (t := 42) kr hb
       replace hm := hm.2 hb
       refine tkb T [8, 9, 10, 11, 12] [8, 10] hS hH (tts 13) 0 [(0, Sl a1 l_ c1), (5, V (.map (some r101))), (6, I y109), (7, Pt 8 0), (11, Sl a2 picks c2), (12, I (lN picks)), (13, I y109), (28, Sl a1 l_ c1), (29, I (lN l_)), (30, I y127), (47, B false)] fun a hS => ?_
       refine drawnDone kr ?_
       replace hS := hS.sl ⟨[(0, Sl a1 l_ c1), (5, V (.map (some r101))), (6, I y109), (7, Pt 8 0), (11, Sl a2 picks c2), (12, I (lN picks)), (13, I y109), (28, Sl a1 l_ c1), (29, I (lN l_)), (30, I y127), (47, B false)], [(8, (109, (cK (gi picks y109))))]⟩
       exact ⟨Z, _, false, hm, hS.sl _, hO, h123, h124, h125, h126⟩
      rintro a w147 ⟨Z, X146, y135, hm, hS, hO, h131, h132, h133, h134⟩
      unfold VC81_J4 at hm
      refine wcond hS (b := y135) kr (fun hb => ?_) fun hb => ?_
      ·replace hm := hm.1 hb
       refine rP T hS ⟨[(4, I y109)], []⟩ fun a hS => ?_
       refine wret ?_
       exact fin T hS hO (fun c => c) rfl (r := [.int .i64 y109]) kr (fun X' hM hC => ⟨y109, hm, rfl⟩)
      replace hm := hm.2 hb
      refine wskip ?_
      refine region (ePb T hS [(0, Sl a1 l_ c1), (5, V (.map (some r101))), (6, I y109), (7, Pt 8 0), (11, Sl a2 picks c2), (12, I (lN picks)), (13, I y109), (28, Sl a1 l_ c1), (29, I (lN l_)), (30, I (wR (y127 + 1)))] fun a hS => ?_)
      exact ⟨wR (y127 + 1), ⟨Z, _, hm.1, hS.sl _, hO, h131, h132, h133, h134⟩, hm.2⟩
     replace hm := hm.2 hb
     refine wexit (by rfl) ?_
     exact ⟨Z, _, hm, hS.sl _, hO, h123, h124, h125⟩
    rintro a w153 ⟨Z, X152, hm, hS, hO, h117, h118, h119⟩
    unfold VC81_J3 at hm
    refine region ?_
    refine oP T hS 3 ⟨[(0, Sl a1 l_ c1), (5, V (.map (some r101))), (11, Sl a2 picks c2), (12, I (lN picks)), (13, I y109), (50, V (.map (some r101))), (52, I ((gi picks y109).Oper))], []⟩ fun a hS => ?_
    refine op1 (mlook kI tI false (zv := .int .i64 0) (z := 0) ((gi picks y109).Oper) hS kr kr kr kr Try.underlying59 Try.underlying3 kr rfl h118 ?_)
    intro v120 a hv hS
    replace hv : tI.R _ _ [v120] _ := hv
    cases hv
    refine oPb T hS 1 [(0, Sl a1 l_ c1), (5, V (.map (some r101))), (11, Sl a2 picks c2), (12, I (lN picks)), (13, I y109), (50, V (.map (some r101))), (52, I ((gi picks y109).Oper)), (54, I (wR (((mget y106 ((gi picks y109).Oper)).getD 0) + 1)))] fun a hS => ?_
    refine op1 (mset kI tI false (v := I (wR (((mget y106 ((gi picks y109).Oper)).getD 0) + 1))) (u := wR (((mget y106 ((gi picks y109).Oper)).getD 0) + 1)) ((gi picks y109).Oper) hS kr kr kr kr Try.underlying59 Try.underlying3 kr h118 rfl ?_)
    intro a w121 hE h122 hS
    clear h118
    replace hO := hO.m2 hE
    replace h117 := h117.m1 hE
    replace h119 := h119.m1 hE
    refine doneK ?_
    exact ⟨Z, _, mput y106 ((gi picks y109).Oper) (wR (((mget y106 ((gi picks y109).Oper)).getD 0) + 1)), hm, hS.sl _, hO, h117, h122, h119⟩
   rintro a w157 ⟨Z, X156, y111, hm, hS, hO, h110, h112, h113⟩
   unfold VC81_J2 at hm
   refine region (ePb T hS [(0, Sl a1 l_ c1), (5, V (.map (some r101))), (11, Sl a2 picks c2), (12, I (lN picks)), (13, I (wR (y109 + 1)))] fun a hS => ?_)
   exact ⟨⟨y111, wR (y109 + 1)⟩, ⟨Z, _, hm.1, hS.sl _, hO, h110, h112, h113⟩, hm.2⟩
  replace hm := hm.2 hb
  refine wexit (by rfl) ?_
  exact ⟨Z, _, hm, hS.sl _, hO⟩
 rintro a w161 ⟨Z, X160, hm, hS, hO⟩
 unfold VC81_J1 at hm
 refine rPb T hS [(4, I (-1))] fun a hS => ?_
 refine wret ?_
 exact fin T hS hO (fun c => c) rfl (r := [.int .i64 (-1)]) kr (fun X' hM hC => ⟨(-1), hm, rfl⟩)
theorem C81 (k76 : S76) (v : ∀ (l_ : List Api_Oper) (picks : List Api_Pick), VC81 l_ picks (fun r => r = witness_Order l_ picks)) : S81 := by
 intro w X l_ picks a1 c1 a2 c2   h1 h2
 refine (W81 k76 w X l_ picks a1 c1 a2 c2   _ (v l_ picks) h1 h2).mono ?_
 rintro _ _ _ _ ⟨r, rfl, h⟩
 exact h
theorem W84 (w0) (X0) (o_ : Api_Oper) (Q : Bool -> Prop) (hm : VC84 o_ Q) :
  Ret Try.prog 84 #[.agg #[.int .i64 o_.Prc, .int .i64 o_.Kind, .int .i64 o_.Start, .int .i64 o_.End, .int .i64 o_.Result]] xnone w0 X0 (fun w X' v => ∃ r, Q r /\ v = .bool r) := by
 unfold VC84 at hm
 refine enter Try.func84 rfl (vals := [.agg #[.int .i64 o_.Prc, .int .i64 o_.Kind, .int .i64 o_.Start, .int .i64 o_.End, .int .i64 o_.Result]]) kr ?_
 intro Z a hS hO hM
 refine rM T hS ⟨[(1, Pt 2 0)], [(2, (61, (cP o_)))]⟩ fun Z a w101 X102 hS hE hr => ?_
 replace hO := hO.m2 hE
 clear hE hr
 refine wseq ?_
 refine rPb T hS [(1, Pt 2 0), (5, B (o_.End == (-1)))] fun a hS => ?_
 refine wcond hS (b := (o_.End == (-1))) kr (fun hb => ?_) fun hb => ?_
 ·replace hm := hm.1 hb
  refine rP T hS ⟨[(2, B (o_.Result == (-1)))], []⟩ fun a hS => ?_
  refine wret ?_
  exact fin T hS hO (fun c => c) rfl (r := [.bool (o_.Result == (-1))]) kr (fun X' hM hC => ⟨(o_.Result == (-1)), hm, rfl⟩)
 replace hm := hm.2 hb
 refine wskip ?_
 refine rP T hS ⟨[(2, B ((((decide (o_.End > o_.Start)) && (decide (o_.End ≤ 9999))) && (decide (o_.Result ≥ 0))) && (decide (o_.Result ≤ 1000000))))], []⟩ (sp := [14, 19, 24]) fun a hS => ?_
 refine wret ?_
 exact fin T hS hO (fun c => c) rfl (r := [.bool ((((decide (o_.End > o_.Start)) && (decide (o_.End ≤ 9999))) && (decide (o_.Result ≥ 0))) && (decide (o_.Result ≤ 1000000)))]) kr (fun X' hM hC => ⟨((((decide (o_.End > o_.Start)) && (decide (o_.End ≤ 9999))) && (decide (o_.Result ≥ 0))) && (decide (o_.Result ≤ 1000000))), hm, rfl⟩)
theorem C84 (v : ∀ (o_ : Api_Oper), VC84 o_ (fun r => r = oper_ended o_)) : S84 := by
 intro w X o_    
 refine (W84 w X o_    _ (v o_)).mono ?_
 rintro _ _ _ _ ⟨r, rfl, h⟩
 exact h
theorem W75 (k84 : S84) (w0) (X0) (o_ : Api_Oper) (Q : Int -> Prop) (hm : VC75 o_ Q) :
  Ret Try.prog 75 #[.agg #[.int .i64 o_.Prc, .int .i64 o_.Kind, .int .i64 o_.Start, .int .i64 o_.End, .int .i64 o_.Result]] xnone w0 X0 (fun w X' v => ∃ r, Q r /\ v = .int .i64 r) := by
 unfold VC75 at hm
 refine enter Try.func75 rfl (vals := [.agg #[.int .i64 o_.Prc, .int .i64 o_.Kind, .int .i64 o_.Start, .int .i64 o_.End, .int .i64 o_.Result]]) kr ?_
 intro Z a hS hO hM
 refine rM T hS ⟨[(1, Pt 2 0)], [(2, (61, (cP o_)))]⟩ fun Z a w105 X106 hS hE hr => ?_
 replace hO := hO.m2 hE
 clear hE hr
 refine wseq ?_
 refine wblock ?_
 refine rPb T hS [(1, Pt 2 0), (3, B ((((decide (o_.Prc < 1)) || (decide (o_.Prc > 1000))) || (decide (o_.Start < 0))) || (decide (o_.Start > 9999))))] (sp := [7, 12, 17]) fun a hS => ?_
 refine wcond hS (b := ((((decide (o_.Prc < 1)) || (decide (o_.Prc > 1000))) || (decide (o_.Start < 0))) || (decide (o_.Start > 9999)))) kr (fun hb => ?_) fun hb => ?_
 ·replace hm := hm.1 hb
  refine rP T hS ⟨[(2, I 2)], []⟩ fun a hS => ?_
  refine wret ?_
  exact fin T hS hO (fun c => c) rfl (r := [.int .i64 2]) kr (fun X' hM hC => ⟨2, hm, rfl⟩)
 replace hm := hm.2 hb
 refine rPb T hS [(1, Pt 2 0), (22, B ((decide (o_.Kind < 0)) || (decide (o_.Kind ≥ 64))))] (sp := [26]) fun a hS => ?_
 refine wcond hS (b := ((decide (o_.Kind < 0)) || (decide (o_.Kind ≥ 64)))) kr (fun hb => ?_) fun hb => ?_
 ·replace hm := hm.1 hb
  refine rP T hS ⟨[(2, I 31)], []⟩ fun a hS => ?_
  refine wret ?_
  exact fin T hS hO (fun c => c) rfl (r := [.int .i64 31]) kr (fun X' hM hC => ⟨31, hm, rfl⟩)
 replace hm := hm.2 hb
 refine regO ?_
 refine oP T hS 1 ⟨[(32, V (.agg #[.int .i64 o_.Prc, .int .i64 o_.Kind, .int .i64 o_.Start, .int .i64 o_.End, .int .i64 o_.Result]))], []⟩ fun a hS => ?_
 refine op1 (call hS kr kr hb84 kr (fun _ _ => rfl) (k84 _ _ o_) ?_)
 intro v101 a w102 X103 hE hp hS
 replace hO := hO.m2 hE
 obtain ⟨r104, hr⟩ : ∃ r, oper_ended o_ = r := ⟨_, rfl⟩
 replace hm := hm r104 hr
 rw [hr] at hp
 clear hr
 subst hp
 refine ePb T hS [(31, B (!r104))] fun a hS => ?_
 refine wcond hS (b := (!r104)) kr (fun hb => ?_) fun hb => ?_
 ·replace hm := hm.1 hb
  refine rPb T hS [(2, I 7)] fun a hS => ?_
  refine wret ?_
  exact fin T hS hO (fun c => c) rfl (r := [.int .i64 7]) kr (fun X' hM hC => ⟨7, hm, rfl⟩)
 replace hm := hm.2 hb
 refine wskip ?_
 refine rPb T hS [(2, I 0)] fun a hS => ?_
 refine wret ?_
 exact fin T hS hO (fun c => c) rfl (r := [.int .i64 0]) kr (fun X' hM hC => ⟨0, hm, rfl⟩)
theorem C75 (k84 : S84) (v : ∀ (o_ : Api_Oper), VC75 o_ (fun r => r = oper_alone o_)) : S75 := by
 intro w X o_    
 refine (W75 k84 w X o_    _ (v o_)).mono ?_
 rintro _ _ _ _ ⟨r, rfl, h⟩
 exact h
theorem W63 (k75 : S75) (k76 : S76) (w0) (X0) (l_ : List Api_Oper) (a1) (c1) (Q : Int × Int -> Prop) (hm : VC63 l_ Q) (h1 : RS tApi_Oper w0 X0 a1 l_ c1) :
  Ret Try.prog 63 #[.slice a1 l_.length c1] xnone w0 X0 (fun w X' v => ∃ r, Q r /\ v = .tuple #[.int .i64 r.1, .int .i64 r.2]) := by
 unfold VC63 at hm
 replace hm := hm (h1.sm kr)
 refine enter Try.func63 rfl (vals := [.slice a1 l_.length c1]) kr ?_
 intro Z a hS hO hM
 replace h1 := h1.m0 hM
 refine rPb T hS [(0, Sl a1 l_ c1)] fun a hS => ?_
 refine wseq ?_
 refine rPb T hS [(0, Sl a1 l_ c1), (13, B (decide ((lN l_) > 5000)))] fun a hS => ?_
 refine wcond hS (b := decide ((lN l_) > 5000)) kr (fun hb => ?_) fun hb => ?_
 ·replace hm := hm.1 hb
  refine rPb T hS [(2, I 0), (3, I 3)] fun a hS => ?_
  refine wret ?_
  exact fin T hS hO (fun c => c) rfl (r := [.int .i64 0, .int .i64 3]) kr (fun X' hM hC => ⟨(0, 3), hm, rfl⟩)
 replace hm := hm.2 hb
 refine wskip ?_
 refine regO ?_
 refine op1 (mkmap kI tI false 1015 hS kr kr ?_)
 intro r101 a w102 X103 hE h104 hS
 replace hO := hO.m2 hE
 replace h1 := h1.m1 hE
 refine ePb T hS [(0, Sl a1 l_ c1), (4, V (.map (some r101)))] fun a hS => ?_
 refine regO ?_
 refine op1 (mkmap kI tApi_Oper true 1016 hS kr kr ?_)
 intro r105 a w106 X107 hE h108 hS
 replace hO := hO.m2 hE
 replace h1 := h1.m1 hE
 replace h104 := h104.m2 hE
 refine ePb T hS [(0, Sl a1 l_ c1), (4, V (.map (some r101))), (5, V (.map (some r105)))] fun a hS => ?_
 refine wcut (fun a w => ∃ Z X, VC63_J1 l_ Q /\ St Try.f63.ntmps ⟨[(0, Sl a1 l_ c1)], []⟩ Z a w X /\ Old w0 X0 w X /\ RS tApi_Oper w X a1 l_ c1) ?_ ?_
 ·refine rPb T hS [(0, Sl a1 l_ c1), (4, V (.map (some r101))), (5, V (.map (some r105))), (16, Sl a1 l_ c1), (17, I (lN l_)), (18, I 0)] fun a hS => ?_
  refine wblock ?_
  obtain ⟨I1, μ1, hm0, hm⟩ := hm
  refine wloop (σ := (List (Int × Int)) × (List (Int × Api_Oper)) × Int) (fun s a w => ∃ Z X, I1 s.1 s.2.1 s.2.2 /\ St Try.f63.ntmps ⟨[(0, Sl a1 l_ c1), (4, V (.map (some r101))), (5, V (.map (some r105))), (16, Sl a1 l_ c1), (17, I (lN l_)), (18, I s.2.2)], []⟩ Z a w X /\ Old w0 X0 w X /\ RS tApi_Oper w X a1 l_ c1 /\ OM kI tI false w X 1015 r101 s.1 /\ OM kI tApi_Oper true w X 1016 r105 s.2.1 /\ RS tApi_Oper w X a1 l_ c1) (fun s => μ1 s.1 s.2.1 s.2.2) (⟨([] : List (Int × Int)), ([] : List (Int × Api_Oper)), 0⟩) ?_ ?_
  ·exact ⟨Z, _, hm0, hS.sl _, hO, h1, h104, h108, h1⟩
  rintro ⟨y111, y113, y116⟩ a w174 ⟨Z, X173, hI, hS, hO, h110, h112, h114, h115⟩
  replace hm := hm y111 y113 y116 hI
  clear hI hm0
  refine rPb T hS [(0, Sl a1 l_ c1), (4, V (.map (some r101))), (5, V (.map (some r105))), (16, Sl a1 l_ c1), (17, I (lN l_)), (18, I y116), (19, B (decide (y116 < (lN l_))))] fun a hS => ?_
  refine wseq ?_
  refine wcond hS (b := decide (y116 < (lN l_))) kr (fun hb => ?_) fun hb => ?_
  ·replace hm := hm.1 hb
   refine wskip ?_
   refine wcut (fun a w => ∃ (Z : Nat -> Nat) (X : Nat -> Nat) (y118 : List (Int × Int)), VC63_J2 l_ I1 μ1 y111 y113 y116 y118 /\ St Try.f63.ntmps ⟨[(0, Sl a1 l_ c1), (4, V (.map (some r101))), (5, V (.map (some r105))), (16, Sl a1 l_ c1), (17, I (lN l_)), (18, I y116)], []⟩ Z a w X /\ Old w0 X0 w X /\ RS tApi_Oper w X a1 l_ c1 /\ OM kI tI false w X 1015 r101 y118 /\ OM kI tApi_Oper true w X 1016 r105 (mput y113 ((gi l_ y116).Prc) (gi l_ y116)) /\ RS tApi_Oper w X a1 l_ c1) ?_ ?_
   ·refine wblock ?_
    refine regO ?_
    refine oPb T hS 1 [(0, Sl a1 l_ c1), (4, V (.map (some r101))), (5, V (.map (some r105))), (16, Sl a1 l_ c1), (17, I (lN l_)), (18, I y116), (20, I y116)] fun a hS => ?_
    obtain ⟨hq, hm⟩ := hm
    refine op1 (index (e := 61) (k := .i64) T hS kr kr kr kr h115 kr kr hq.1 hq.2 ?_)
    intro A122 a h123 hS
    refine op1 (loadA T hS kr kr kr h123 kr kr ?_)
    intro v124 a hv hS
    subst hv
    refine eM T hS ⟨[(0, Sl a1 l_ c1), (4, V (.map (some r101))), (5, V (.map (some r105))), (6, I y116), (7, Pt 8 0), (16, Sl a1 l_ c1), (17, I (lN l_)), (18, I y116)], [(8, (61, (cP (gi l_ y116))))]⟩ fun Z a w169 X170 hS hE hr => ?_
    replace hO := hO.m2 hE
    replace h110 := h110.m1 hE
    replace h112 := h112.m2 hE
    replace h114 := h114.m2 hE
    replace h115 := h115.m1 hE
    clear hE hr
    refine wseq ?_
    refine regO ?_
    refine oPb T hS 1 [(0, Sl a1 l_ c1), (4, V (.map (some r101))), (5, V (.map (some r105))), (6, I y116), (7, Pt 8 0), (16, Sl a1 l_ c1), (17, I (lN l_)), (18, I y116), (23, V (.agg #[.int .i64 ((gi l_ y116).Prc), .int .i64 ((gi l_ y116).Kind), .int .i64 ((gi l_ y116).Start), .int .i64 ((gi l_ y116).End), .int .i64 ((gi l_ y116).Result)]))] fun a hS => ?_
    refine op1 (call hS kr kr hb75 kr (fun _ _ => rfl) (k75 _ _ (gi l_ y116)) ?_)
    intro v125 a w126 X127 hE hp hS
    replace hO := hO.m2 hE
    replace h110 := h110.m1 hE
    replace h112 := h112.m2 hE
    replace h114 := h114.m2 hE
    replace h115 := h115.m1 hE
    obtain ⟨r128, hr⟩ : ∃ r, oper_alone (gi l_ y116) = r := ⟨_, rfl⟩
    replace hm := hm r128 hr
    rw [hr] at hp
    clear hr
    subst hp
    refine ePb T hS [(0, Sl a1 l_ c1), (4, V (.map (some r101))), (5, V (.map (some r105))), (6, I y116), (7, Pt 8 0), (8, I r128), (16, Sl a1 l_ c1), (17, I (lN l_)), (18, I y116)] fun a hS => ?_
    refine rPb T hS [(0, Sl a1 l_ c1), (4, V (.map (some r101))), (5, V (.map (some r105))), (6, I y116), (7, Pt 8 0), (8, I r128), (16, Sl a1 l_ c1), (17, I (lN l_)), (18, I y116), (26, B (r128 != 0))] fun a hS => ?_
    refine wcond hS (b := (r128 != 0)) kr (fun hb => ?_) fun hb => ?_
    ·replace hm := hm.1 hb
     refine rP T hS ⟨[(2, I y116), (3, I r128)], []⟩ fun a hS => ?_
     refine wret ?_
     exact fin T hS hO (fun c => c) rfl (r := [.int .i64 y116, .int .i64 r128]) kr (fun X' hM hC => ⟨(y116, r128), hm, rfl⟩)
    replace hm := hm.2 hb
    refine wskip (wseq ?_)
    refine wcut (fun a w => ∃ (Z : Nat -> Nat) (X : Nat -> Nat) (y133 : Bool), VC63_J3 l_ Q I1 μ1 y111 y113 y116 y133 /\ St Try.f63.ntmps ⟨[(0, Sl a1 l_ c1), (4, V (.map (some r101))), (5, V (.map (some r105))), (6, I y116), (7, Pt 8 0), (16, Sl a1 l_ c1), (17, I (lN l_)), (18, I y116), (60, B y133)], [(8, (61, (cP (gi l_ y116))))]⟩ Z a w X /\ Old w0 X0 w X /\ RS tApi_Oper w X a1 l_ c1 /\ OM kI tI false w X 1015 r101 y111 /\ OM kI tApi_Oper true w X 1016 r105 y113 /\ RS tApi_Oper w X a1 l_ c1) ?_ ?_
    ·refine drawnX [8] mixed hS ?_
     intro w156 X157 hS hE hD hH
     replace hO := hO.m2 hE
     replace h110 := h110.m1 hE
     replace h112 := h112.m2 hE
     replace h114 := h114.m2 hE
     replace h115 := h115.m1 hE
     refine tkc T [0, 1, 2] [8] hS hH #[true, true, true, false, false, false, false, false, false, false, false, false, false, false, false, false, false, false, false, false, false, false, false, false, false, false, false, false, false, false, false, false] 29 [(0, Sl a1 l_ c1), (4, V (.map (some r101))), (5, V (.map (some r105))), (6, I y116), (7, Pt 8 0), (16, Sl a1 l_ c1), (17, I (lN l_)), (18, I y116), (31, B (decide (y116 > 0)))] fun a hS => ?_
     rcases bft (decide (y116 > 0)) with hb | hb
     ·replace hS := hS.lit (t := 31) kr hb
      replace hm := hm.1 hb
      refine tkc T [3, 5, 6, 4, 7] [8] hS hH #[true, true, true, true, true, true, true, true, false, false, false, false, false, false, false, false, false, false, false, false, false, false, false, false, false, false, false, false, false, false, false, false] 24 [(0, Sl a1 l_ c1), (4, V (.map (some r101))), (5, V (.map (some r105))), (6, I y116), (7, Pt 8 0), (16, Sl a1 l_ c1), (17, I (lN l_)), (18, I y116), (31, B true), (33, I ((gi l_ y116).Start)), (34, Sl a1 l_ c1), (36, I (wR (y116 - 1)))] fun a hS => ?_
      obtain ⟨hq, hm⟩ := hm
      refine dindex (e := 61) (k := .i64) T 8 hS kr kr kr (by rfl) kr hH kr kr h110 kr kr hq.1 hq.2 ?_
      intro A158 a h159 hS
      have h159b := h159.here
      refine dfieldA (off := 2) (fsz := 1) (ft := 3) (TF := tI) (y := (gi l_ (wR (y116 - 1))).Start) 9 T hS kr kr kr (by rfl) kr hH kr h159 kr kr kr (fun cs h => Api_Oper_f2 h) ?_
      intro A160 a h161 hbl hS
      have h161b := h159b
      rw [← hbl] at h161b
      clear hbl
      refine dload1 T 10 hS kr kr kr (by rfl) kr hH kr h161 h161b rfl kr ?_
      intro v162 a hv hS
      cases hv
      refine tkc T [11, 12, 13] [8] hS hH #[true, true, true, true, true, true, true, true, true, true, true, true, true, true, false, false, false, false, false, false, false, false, false, false, false, false, false, false, false, false, false, false] 18 [(0, Sl a1 l_ c1), (4, V (.map (some r101))), (5, V (.map (some r105))), (6, I y116), (7, Pt 8 0), (16, Sl a1 l_ c1), (17, I (lN l_)), (18, I y116), (42, B (decide (((gi l_ y116).Start) ≤ ((gi l_ (wR (y116 - 1))).Start))))] fun a hS => ?_
      rcases bft (decide (((gi l_ y116).Start) ≤ ((gi l_ (wR (y116 - 1))).Start))) with hb | hb
      ·replace hS := hS.lit (t := 42) kr hb
       replace hm := hm.1 hb
       refine tkc T [14, 15, 16, 17, 18, 19, 20, 21, 22, 23, 24, 25, 26, 27, 28, 29, 30, 31] [8] hS hH (tts 32) 0 [(0, Sl a1 l_ c1), (4, V (.map (some r101))), (5, V (.map (some r105))), (6, I y116), (7, Pt 8 0), (16, Sl a1 l_ c1), (17, I (lN l_)), (18, I y116), (60, B true)] fun a hS => ?_
       refine drawnDone kr ?_
       replace hS := hS.slb [(0, Sl a1 l_ c1), (4, V (.map (some r101))), (5, V (.map (some r105))), (6, I y116), (7, Pt 8 0), (16, Sl a1 l_ c1), (17, I (lN l_)), (18, I y116), (60, B true)]
       exact ⟨Z, _, true, hm, hS.sl _, hO, h110, h112, h114, h115⟩
      replace hS := hS.lit (t := 42) kr hb
      replace hm := hm.2 hb
      refine tkc T [14, 15, 16] [8] hS hH #[true, true, true, true, true, true, true, true, true, true, true, true, true, true, true, true, true, false, false, false, false, false, false, false, false, false, false, false, false, false, false, false] 15 [(0, Sl a1 l_ c1), (4, V (.map (some r101))), (5, V (.map (some r105))), (6, I y116), (7, Pt 8 0), (16, Sl a1 l_ c1), (17, I (lN l_)), (18, I y116), (42, B false), (43, V (.map (some r101))), (45, I ((gi l_ y116).Start))] fun a hS => ?_
      refine only 17 kr (by rfl) (mlook kI tI false (zv := .int .i64 0) (z := 0) ((gi l_ y116).Start) hS kr kr kr kr Try.underlying59 Try.underlying3 kr rfl h112 ?_)
      intro v163 a hv hS
      replace hv : tI.R _ _ [v163] _ := hv
      cases hv
      refine andH (Hold.of hS (bks := [8]) kr hD) ?_
      intro hH
      refine tkc T [18, 19, 20] [8] hS hH #[true, true, true, true, true, true, true, true, true, true, true, true, true, true, true, true, true, true, true, true, true, false, false, false, false, false, false, false, false, false, false, false] 11 [(0, Sl a1 l_ c1), (4, V (.map (some r101))), (5, V (.map (some r105))), (6, I y116), (7, Pt 8 0), (16, Sl a1 l_ c1), (17, I (lN l_)), (18, I y116), (49, B (decide (((mget y111 ((gi l_ y116).Start)).getD 0) > 0)))] fun a hS => ?_
      rcases bft (decide (((mget y111 ((gi l_ y116).Start)).getD 0) > 0)) with hb | hb
      ·replace hS := hS.lit (t := 49) kr hb
       replace hm := hm.1 hb
       refine tkc T [21, 22, 23, 24, 25, 26, 27, 28, 29, 30, 31] [8] hS hH (tts 32) 0 [(0, Sl a1 l_ c1), (4, V (.map (some r101))), (5, V (.map (some r105))), (6, I y116), (7, Pt 8 0), (16, Sl a1 l_ c1), (17, I (lN l_)), (18, I y116), (60, B true)] fun a hS => ?_
       refine drawnDone kr ?_
       replace hS := hS.slb [(0, Sl a1 l_ c1), (4, V (.map (some r101))), (5, V (.map (some r105))), (6, I y116), (7, Pt 8 0), (16, Sl a1 l_ c1), (17, I (lN l_)), (18, I y116), (60, B true)]
       exact ⟨Z, _, true, hm, hS.sl _, hO, h110, h112, h114, h115⟩
      replace hS := hS.lit (t := 49) kr hb
      replace hm := hm.2 hb
      refine tkc T [21, 22, 23, 24] [8] hS hH #[true, true, true, true, true, true, true, true, true, true, true, true, true, true, true, true, true, true, true, true, true, true, true, true, true, false, false, false, false, false, false, false] 7 [(0, Sl a1 l_ c1), (4, V (.map (some r101))), (5, V (.map (some r105))), (6, I y116), (7, Pt 8 0), (16, Sl a1 l_ c1), (17, I (lN l_)), (18, I y116), (49, B false), (53, B (decide (((gi l_ y116).End) ≥ 0)))] fun a hS => ?_
      rcases bft (decide (((gi l_ y116).End) ≥ 0)) with hb | hb
      ·replace hS := hS.lit (t := 53) kr hb
       replace hm := hm.1 hb
       refine tkc T [25, 26, 27] [8] hS hH #[true, true, true, true, true, true, true, true, true, true, true, true, true, true, true, true, true, true, true, true, true, true, true, true, true, true, true, true, false, false, false, false] 4 [(0, Sl a1 l_ c1), (4, V (.map (some r101))), (5, V (.map (some r105))), (6, I y116), (7, Pt 8 0), (16, Sl a1 l_ c1), (17, I (lN l_)), (18, I y116), (49, B false), (53, B true), (54, V (.map (some r101))), (56, I ((gi l_ y116).End))] fun a hS => ?_
       refine only 28 kr (by rfl) (mlook kI tI false (zv := .int .i64 0) (z := 0) ((gi l_ y116).End) hS kr kr kr kr Try.underlying59 Try.underlying3 kr rfl h112 ?_)
       intro v164 a hv hS
       replace hv : tI.R _ _ [v164] _ := hv
       cases hv
       refine andH (Hold.of hS (bks := [8]) kr hD) ?_
       intro hH
       refine tkc T [29, 30, 31] [8] hS hH (tts 32) 0 [(0, Sl a1 l_ c1), (4, V (.map (some r101))), (5, V (.map (some r105))), (6, I y116), (7, Pt 8 0), (16, Sl a1 l_ c1), (17, I (lN l_)), (18, I y116), (60, B (decide (((mget y111 ((gi l_ y116).End)).getD 0) > 0)))] fun a hS => ?_
       refine drawnDone kr ?_
       replace hS := hS.slb [(0, Sl a1 l_ c1), (4, V (.map (some r101))), (5, V (.map (some r105))), (6, I y116), (7, Pt 8 0), (16, Sl a1 l_ c1), (17, I (lN l_)), (18, I y116), (60, B (decide (((mget y111 ((gi l_ y116).End)).getD 0) > 0)))]
       exact ⟨Z, _, decide (((mget y111 ((gi l_ y116).End)).getD 0) > 0), hm, hS.sl _, hO, h110, h112, h114, h115⟩
      replace hS := hS.lit (t := 53) kr hb
      replace hm := hm.2 hb
      refine tkc T [25, 26, 27, 28, 29, 30, 31] [8] hS hH (tts 32) 0 [(0, Sl a1 l_ c1), (4, V (.map (some r101))), (5, V (.map (some r105))), (6, I y116), (7, Pt 8 0), (16, Sl a1 l_ c1), (17, I (lN l_)), (18, I y116), (60, B false)] fun a hS => ?_
      refine drawnDone kr ?_
      replace hS := hS.slb [(0, Sl a1 l_ c1), (4, V (.map (some r101))), (5, V (.map (some r105))), (6, I y116), (7, Pt 8 0), (16, Sl a1 l_ c1), (17, I (lN l_)), (18, I y116), (60, B false)]
      exact ⟨Z, _, false, hm, hS.sl _, hO, h110, h112, h114, h115⟩
     replace hS := hS.lit (t := 31) kr hb
     replace hm := hm.2 hb
     refine tkc T [3, 5, 6, 4, 7, 8, 9, 10, 11, 12, 13, 14, 15, 16] [8] hS hH #[true, true, true, true, true, true, true, true, true, true, true, true, true, true, true, true, true, false, false, false, false, false, false, false, false, false, false, false, false, false, false, false] 15 [(0, Sl a1 l_ c1), (4, V (.map (some r101))), (5, V (.map (some r105))), (6, I y116), (7, Pt 8 0), (16, Sl a1 l_ c1), (17, I (lN l_)), (18, I y116), (42, B false), (43, V (.map (some r101))), (45, I ((gi l_ y116).Start))] fun a hS => ?_
     refine only 17 kr (by rfl) (mlook kI tI false (zv := .int .i64 0) (z := 0) ((gi l_ y116).Start) hS kr kr kr kr Try.underlying59 Try.underlying3 kr rfl h112 ?_)
     intro v165 a hv hS
     replace hv : tI.R _ _ [v165] _ := hv
     cases hv
     refine andH (Hold.of hS (bks := [8]) kr hD) ?_
     intro hH
     refine tkc T [18, 19, 20] [8] hS hH #[true, true, true, true, true, true, true, true, true, true, true, true, true, true, true, true, true, true, true, true, true, false, false, false, false, false, false, false, false, false, false, false] 11 [(0, Sl a1 l_ c1), (4, V (.map (some r101))), (5, V (.map (some r105))), (6, I y116), (7, Pt 8 0), (16, Sl a1 l_ c1), (17, I (lN l_)), (18, I y116), (49, B (decide (((mget y111 ((gi l_ y116).Start)).getD 0) > 0)))] fun a hS => ?_
     rcases bft (decide (((mget y111 ((gi l_ y116).Start)).getD 0) > 0)) with hb | hb
     ·replace hS := hS.lit (t := 49) kr hb
      replace hm := hm.1 hb
      refine tkc T [21, 22, 23, 24, 25, 26, 27, 28, 29, 30, 31] [8] hS hH (tts 32) 0 [(0, Sl a1 l_ c1), (4, V (.map (some r101))), (5, V (.map (some r105))), (6, I y116), (7, Pt 8 0), (16, Sl a1 l_ c1), (17, I (lN l_)), (18, I y116), (60, B true)] fun a hS => ?_
      refine drawnDone kr ?_
      replace hS := hS.slb [(0, Sl a1 l_ c1), (4, V (.map (some r101))), (5, V (.map (some r105))), (6, I y116), (7, Pt 8 0), (16, Sl a1 l_ c1), (17, I (lN l_)), (18, I y116), (60, B true)]
      exact ⟨Z, _, true, hm, hS.sl _, hO, h110, h112, h114, h115⟩
     replace hS := hS.lit (t := 49) kr hb
     replace hm := hm.2 hb
     refine tkc T [21, 22, 23, 24] [8] hS hH #[true, true, true, true, true, true, true, true, true, true, true, true, true, true, true, true, true, true, true, true, true, true, true, true, true, false, false, false, false, false, false, false] 7 [(0, Sl a1 l_ c1), (4, V (.map (some r101))), (5, V (.map (some r105))), (6, I y116), (7, Pt 8 0), (16, Sl a1 l_ c1), (17, I (lN l_)), (18, I y116), (49, B false), (53, B (decide (((gi l_ y116).End) ≥ 0)))] fun a hS => ?_
     rcases bft (decide (((gi l_ y116).End) ≥ 0)) with hb | hb
     ·replace hS := hS.lit (t := 53) kr hb
      replace hm := hm.1 hb
      refine tkc T [25, 26, 27] [8] hS hH #[true, true, true, true, true, true, true, true, true, true, true, true, true, true, true, true, true, true, true, true, true, true, true, true, true, true, true, true, false, false, false, false] 4 [(0, Sl a1 l_ c1), (4, V (.map (some r101))), (5, V (.map (some r105))), (6, I y116), (7, Pt 8 0), (16, Sl a1 l_ c1), (17, I (lN l_)), (18, I y116), (49, B false), (53, B true), (54, V (.map (some r101))), (56, I ((gi l_ y116).End))] fun a hS => ?_
      refine only 28 kr (by rfl) (mlook kI tI false (zv := .int .i64 0) (z := 0) ((gi l_ y116).End) hS kr kr kr kr Try.underlying59 Try.underlying3 kr rfl h112 ?_)
      intro v166 a hv hS
      replace hv : tI.R _ _ [v166] _ := hv
      cases hv
      refine andH (Hold.of hS (bks := [8]) kr hD) ?_
      intro hH
      refine tkc T [29, 30, 31] [8] hS hH (tts 32) 0 [(0, Sl a1 l_ c1), (4, V (.map (some r101))), (5, V (.map (some r105))), (6, I y116), (7, Pt 8 0), (16, Sl a1 l_ c1), (17, I (lN l_)), (18, I y116), (60, B (decide (((mget y111 ((gi l_ y116).End)).getD 0) > 0)))] fun a hS => ?_
      refine drawnDone kr ?_
      replace hS := hS.slb [(0, Sl a1 l_ c1), (4, V (.map (some r101))), (5, V (.map (some r105))), (6, I y116), (7, Pt 8 0), (16, Sl a1 l_ c1), (17, I (lN l_)), (18, I y116), (60, B (decide (((mget y111 ((gi l_ y116).End)).getD 0) > 0)))]
      exact ⟨Z, _, decide (((mget y111 ((gi l_ y116).End)).getD 0) > 0), hm, hS.sl _, hO, h110, h112, h114, h115⟩
     replace hS := hS.lit (t := 53) kr hb
     replace hm := hm.2 hb
     refine tkc T [25, 26, 27, 28, 29, 30, 31] [8] hS hH (tts 32) 0 [(0, Sl a1 l_ c1), (4, V (.map (some r101))), (5, V (.map (some r105))), (6, I y116), (7, Pt 8 0), (16, Sl a1 l_ c1), (17, I (lN l_)), (18, I y116), (60, B false)] fun a hS => ?_
     refine drawnDone kr ?_
     replace hS := hS.slb [(0, Sl a1 l_ c1), (4, V (.map (some r101))), (5, V (.map (some r105))), (6, I y116), (7, Pt 8 0), (16, Sl a1 l_ c1), (17, I (lN l_)), (18, I y116), (60, B false)]
     exact ⟨Z, _, false, hm, hS.sl _, hO, h110, h112, h114, h115⟩
    rintro a w168 ⟨Z, X167, y133, hm, hS, hO, h129, h130, h131, h132⟩
    unfold VC63_J3 at hm
    refine wcond hS (b := y133) kr (fun hb => ?_) fun hb => ?_
    ·replace hm := hm.1 hb
     refine rP T hS ⟨[(2, I y116), (3, I 32)], []⟩ fun a hS => ?_
     refine wret ?_
     exact fin T hS hO (fun c => c) rfl (r := [.int .i64 y116, .int .i64 32]) kr (fun X' hM hC => ⟨(y116, 32), hm, rfl⟩)
    replace hm := hm.2 hb
    refine wskip (wseq ?_)
    refine regO ?_
    refine oPb T hS 3 [(0, Sl a1 l_ c1), (4, V (.map (some r101))), (5, V (.map (some r105))), (6, I y116), (7, Pt 8 0), (16, Sl a1 l_ c1), (17, I (lN l_)), (18, I y116), (63, V (.map (some r105))), (65, I ((gi l_ y116).Prc))] fun a hS => ?_
    refine op1 (mlook2 kI tApi_Oper true (zv := .agg #[.int .i64 0, .int .i64 0, .int .i64 0, .int .i64 0, .int .i64 0]) (z := (⟨0, 0, 0, 0, 0⟩ : Api_Oper)) ((gi l_ y116).Prc) hS kr kr kr kr Try.underlying130 Try.underlying3 kr ⟨_, rfl, rfl⟩ h131 ?_)
    intro v134 a hv hS
    obtain ⟨_, rfl, hv⟩ := hv
    cases hv
    refine eM T hS ⟨[(0, Sl a1 l_ c1), (4, V (.map (some r101))), (5, V (.map (some r105))), (6, I y116), (7, Pt 8 0), (9, Pt 10 0), (10, B ((mget y113 ((gi l_ y116).Prc)).isSome)), (16, Sl a1 l_ c1), (17, I (lN l_)), (18, I y116)], [(8, (61, (cP (gi l_ y116)))), (10, (61, (cP ((mget y113 ((gi l_ y116).Prc)).getD (⟨0, 0, 0, 0, 0⟩ : Api_Oper)))))]⟩ fun Z a w154 X155 hS hE hr => ?_
    replace hO := hO.m2 hE
    replace h129 := h129.m1 hE
    replace h130 := h130.m2 hE
    replace h131 := h131.m2 hE
    replace h132 := h132.m1 hE
    clear hE hr
    refine wcut (fun a w => ∃ (Z : Nat -> Nat) (X : Nat -> Nat) (y139 : Bool), VC63_J4 l_ Q I1 μ1 y111 y113 y116 y139 /\ St Try.f63.ntmps ⟨[(0, Sl a1 l_ c1), (4, V (.map (some r101))), (5, V (.map (some r105))), (6, I y116), (7, Pt 8 0), (16, Sl a1 l_ c1), (17, I (lN l_)), (18, I y116), (75, B y139)], [(8, (61, (cP (gi l_ y116))))]⟩ Z a w X /\ Old w0 X0 w X /\ RS tApi_Oper w X a1 l_ c1 /\ OM kI tI false w X 1015 r101 y111 /\ OM kI tApi_Oper true w X 1016 r105 y113 /\ RS tApi_Oper w X a1 l_ c1) ?_ ?_
    ·refine region ?_
     refine oPb T hS 2 [(0, Sl a1 l_ c1), (4, V (.map (some r101))), (5, V (.map (some r105))), (6, I y116), (7, Pt 8 0), (9, Pt 10 0), (16, Sl a1 l_ c1), (17, I (lN l_)), (18, I y116), (70, B ((mget y113 ((gi l_ y116).Prc)).isSome))] fun a hS => ?_
     rcases bft ((mget y113 ((gi l_ y116).Prc)).isSome) with hb | hb
     ·replace hS := hS.lit (t := 70) kr hb
      replace hm := hm.1 hb
      refine oP T hS 2 ⟨[(0, Sl a1 l_ c1), (4, V (.map (some r101))), (5, V (.map (some r105))), (6, I y116), (7, Pt 8 0), (16, Sl a1 l_ c1), (17, I (lN l_)), (18, I y116), (70, B true), (71, V (.agg #[.int .i64 (((mget y113 ((gi l_ y116).Prc)).getD (⟨0, 0, 0, 0, 0⟩ : Api_Oper)).Prc), .int .i64 (((mget y113 ((gi l_ y116).Prc)).getD (⟨0, 0, 0, 0, 0⟩ : Api_Oper)).Kind), .int .i64 (((mget y113 ((gi l_ y116).Prc)).getD (⟨0, 0, 0, 0, 0⟩ : Api_Oper)).Start), .int .i64 (((mget y113 ((gi l_ y116).Prc)).getD (⟨0, 0, 0, 0, 0⟩ : Api_Oper)).End), .int .i64 (((mget y113 ((gi l_ y116).Prc)).getD (⟨0, 0, 0, 0, 0⟩ : Api_Oper)).Result)])), (72, V (.agg #[.int .i64 ((gi l_ y116).Prc), .int .i64 ((gi l_ y116).Kind), .int .i64 ((gi l_ y116).Start), .int .i64 ((gi l_ y116).End), .int .i64 ((gi l_ y116).Result)]))], [(8, (61, (cP (gi l_ y116))))]⟩ fun a hS => ?_
      refine op1 (call hS kr kr hb76 kr (fun _ _ => rfl) (k76 _ _ ((mget y113 ((gi l_ y116).Prc)).getD (⟨0, 0, 0, 0, 0⟩ : Api_Oper)) (gi l_ y116)) ?_)
      intro v148 a w149 X150 hE hp hS
      replace hO := hO.m2 hE
      replace h129 := h129.m1 hE
      replace h130 := h130.m2 hE
      replace h131 := h131.m2 hE
      replace h132 := h132.m1 hE
      obtain ⟨r151, hr⟩ : ∃ r, oper_Ahead ((mget y113 ((gi l_ y116).Prc)).getD (⟨0, 0, 0, 0, 0⟩ : Api_Oper)) (gi l_ y116) = r := ⟨_, rfl⟩
      replace hm := hm r151 hr
      rw [hr] at hp
      clear hr
      subst hp
      refine ePb T hS [(0, Sl a1 l_ c1), (4, V (.map (some r101))), (5, V (.map (some r105))), (6, I y116), (7, Pt 8 0), (16, Sl a1 l_ c1), (17, I (lN l_)), (18, I y116), (75, B (!r151))] fun a hS => ?_
      exact ⟨Z, _, (!r151), hm, hS.sl _, hO, h129, h130, h131, h132⟩
     replace hS := hS.lit (t := 70) kr hb
     replace hm := hm.2 hb
     refine eP T hS ⟨[(0, Sl a1 l_ c1), (4, V (.map (some r101))), (5, V (.map (some r105))), (6, I y116), (7, Pt 8 0), (16, Sl a1 l_ c1), (17, I (lN l_)), (18, I y116), (75, B false)], [(8, (61, (cP (gi l_ y116))))]⟩ fun a hS => ?_
     exact ⟨Z, _, false, hm, hS.sl _, hO, h129, h130, h131, h132⟩
    rintro a w153 ⟨Z, X152, y139, hm, hS, hO, h135, h136, h137, h138⟩
    unfold VC63_J4 at hm
    refine wcond hS (b := y139) kr (fun hb => ?_) fun hb => ?_
    ·replace hm := hm.1 hb
     refine rP T hS ⟨[(2, I y116), (3, I 33)], []⟩ fun a hS => ?_
     refine wret ?_
     exact fin T hS hO (fun c => c) rfl (r := [.int .i64 y116, .int .i64 33]) kr (fun X' hM hC => ⟨(y116, 33), hm, rfl⟩)
    replace hm := hm.2 hb
    refine wskip ?_
    refine regO ?_
    refine oPb T hS 3 [(0, Sl a1 l_ c1), (4, V (.map (some r101))), (5, V (.map (some r105))), (7, Pt 8 0), (16, Sl a1 l_ c1), (17, I (lN l_)), (18, I y116), (77, V (.map (some r101))), (79, I ((gi l_ y116).Start))] fun a hS => ?_
    refine op1 (mlook kI tI false (zv := .int .i64 0) (z := 0) ((gi l_ y116).Start) hS kr kr kr kr Try.underlying59 Try.underlying3 kr rfl h136 ?_)
    intro v140 a hv hS
    replace hv : tI.R _ _ [v140] _ := hv
    cases hv
    refine oPb T hS 1 [(0, Sl a1 l_ c1), (4, V (.map (some r101))), (5, V (.map (some r105))), (7, Pt 8 0), (16, Sl a1 l_ c1), (17, I (lN l_)), (18, I y116), (77, V (.map (some r101))), (79, I ((gi l_ y116).Start)), (81, I (wR (((mget y111 ((gi l_ y116).Start)).getD 0) + 1)))] fun a hS => ?_
    refine op1 (mset kI tI false (v := I (wR (((mget y111 ((gi l_ y116).Start)).getD 0) + 1))) (u := wR (((mget y111 ((gi l_ y116).Start)).getD 0) + 1)) ((gi l_ y116).Start) hS kr kr kr kr Try.underlying59 Try.underlying3 kr h136 rfl ?_)
    intro a w141 hE h142 hS
    clear h136
    replace hO := hO.m2 hE
    replace h135 := h135.m1 hE
    replace h137 := h137.m2 hE
    replace h138 := h138.m1 hE
    refine doneK ?_
    refine regO ?_
    refine oPb T hS 4 [(0, Sl a1 l_ c1), (4, V (.map (some r101))), (5, V (.map (some r105))), (7, Pt 8 0), (16, Sl a1 l_ c1), (17, I (lN l_)), (18, I y116), (82, V (.map (some r105))), (84, I ((gi l_ y116).Prc)), (85, V (.agg #[.int .i64 ((gi l_ y116).Prc), .int .i64 ((gi l_ y116).Kind), .int .i64 ((gi l_ y116).Start), .int .i64 ((gi l_ y116).End), .int .i64 ((gi l_ y116).Result)]))] fun a hS => ?_
    refine op1 (mset kI tApi_Oper true (v := V (.agg #[.int .i64 ((gi l_ y116).Prc), .int .i64 ((gi l_ y116).Kind), .int .i64 ((gi l_ y116).Start), .int .i64 ((gi l_ y116).End), .int .i64 ((gi l_ y116).Result)])) (u := (gi l_ y116)) ((gi l_ y116).Prc) hS kr kr kr kr Try.underlying130 Try.underlying3 kr h137 ⟨_, rfl, rfl⟩ ?_)
    intro a w143 hE h144 hS
    clear h137
    replace hO := hO.m2 hE
    replace h135 := h135.m1 hE
    replace h138 := h138.m1 hE
    replace h142 := h142.m2 hE
    refine doneK ?_
    refine rPb T hS [(0, Sl a1 l_ c1), (4, V (.map (some r101))), (5, V (.map (some r105))), (7, Pt 8 0), (16, Sl a1 l_ c1), (17, I (lN l_)), (18, I y116), (88, B (decide (((gi l_ y116).End) ≥ 0)))] fun a hS => ?_
    refine wcond hS (b := decide (((gi l_ y116).End) ≥ 0)) kr (fun hb => ?_) fun hb => ?_
    ·replace hm := hm.1 hb
     refine region ?_
     refine oP T hS 3 ⟨[(0, Sl a1 l_ c1), (4, V (.map (some r101))), (5, V (.map (some r105))), (16, Sl a1 l_ c1), (17, I (lN l_)), (18, I y116), (89, V (.map (some r101))), (91, I ((gi l_ y116).End))], []⟩ fun a hS => ?_
     refine op1 (mlook kI tI false (zv := .int .i64 0) (z := 0) ((gi l_ y116).End) hS kr kr kr kr Try.underlying59 Try.underlying3 kr rfl h142 ?_)
     intro v145 a hv hS
     replace hv : tI.R _ _ [v145] _ := hv
     cases hv
     refine oPb T hS 1 [(0, Sl a1 l_ c1), (4, V (.map (some r101))), (5, V (.map (some r105))), (16, Sl a1 l_ c1), (17, I (lN l_)), (18, I y116), (89, V (.map (some r101))), (91, I ((gi l_ y116).End)), (93, I (wR (((mget (mput y111 ((gi l_ y116).Start) (wR (((mget y111 ((gi l_ y116).Start)).getD 0) + 1))) ((gi l_ y116).End)).getD 0) + 1)))] fun a hS => ?_
     refine op1 (mset kI tI false (v := I (wR (((mget (mput y111 ((gi l_ y116).Start) (wR (((mget y111 ((gi l_ y116).Start)).getD 0) + 1))) ((gi l_ y116).End)).getD 0) + 1))) (u := wR (((mget (mput y111 ((gi l_ y116).Start) (wR (((mget y111 ((gi l_ y116).Start)).getD 0) + 1))) ((gi l_ y116).End)).getD 0) + 1)) ((gi l_ y116).End) hS kr kr kr kr Try.underlying59 Try.underlying3 kr h142 rfl ?_)
     intro a w146 hE h147 hS
     clear h142
     replace hO := hO.m2 hE
     replace h135 := h135.m1 hE
     replace h138 := h138.m1 hE
     replace h144 := h144.m2 hE
     refine doneK ?_
     exact ⟨Z, _, mput (mput y111 ((gi l_ y116).Start) (wR (((mget y111 ((gi l_ y116).Start)).getD 0) + 1))) ((gi l_ y116).End) (wR (((mget (mput y111 ((gi l_ y116).Start) (wR (((mget y111 ((gi l_ y116).Start)).getD 0) + 1))) ((gi l_ y116).End)).getD 0) + 1)), hm, hS.sl _, hO, h135, h147, h144, h138⟩
    replace hm := hm.2 hb
    refine wskip ?_
    exact ⟨Z, _, mput y111 ((gi l_ y116).Start) (wR (((mget y111 ((gi l_ y116).Start)).getD 0) + 1)), hm, hS.sl _, hO, h135, h142, h144, h138⟩
   rintro a w172 ⟨Z, X171, y118, hm, hS, hO, h117, h119, h120, h121⟩
   unfold VC63_J2 at hm
   refine region (ePb T hS [(0, Sl a1 l_ c1), (4, V (.map (some r101))), (5, V (.map (some r105))), (16, Sl a1 l_ c1), (17, I (lN l_)), (18, I (wR (y116 + 1)))] fun a hS => ?_)
   exact ⟨⟨y118, mput y113 ((gi l_ y116).Prc) (gi l_ y116), wR (y116 + 1)⟩, ⟨Z, _, hm.1, hS.sl _, hO, h117, h119, h120, h121⟩, hm.2⟩
  replace hm := hm.2 hb
  refine wexit (by rfl) ?_
  exact ⟨Z, _, hm, hS.sl _, hO, h110⟩
 rintro a w176 ⟨Z, X175, hm, hS, hO, h109⟩
 unfold VC63_J1 at hm
 refine rPb T hS [(2, I (lN l_)), (3, I 0)] fun a hS => ?_
 refine wret ?_
 exact fin T hS hO (fun c => c) rfl (r := [.int .i64 (lN l_), .int .i64 0]) kr (fun X' hM hC => ⟨((lN l_), 0), hm, rfl⟩)
theorem C63 (k75 : S75) (k76 : S76) (v : ∀ (l_ : List Api_Oper), VC63 l_ (fun r => r = oper_Check l_)) : S63 := by
 intro w X l_ a1 c1   h1
 refine (W63 k75 k76 w X l_ a1 c1   _ (v l_) h1).mono ?_
 rintro _ _ _ _ ⟨r, rfl, h⟩
 exact h
theorem W70 (k38 : S38) (k63 : S63) (k80 : S80) (k81 : S81) (k82 : S82) (w0) (X0) (o_ : Api_Object) (l_ : List Api_Oper) (picks : List Api_Pick) (a1) (c1) (a2) (c2) (a3) (c3) (Q : Int × Int -> Prop) (hm : VC70 o_ l_ picks Q) (h1 : RS tApi_Row w0 X0 a1 o_.Rows c1) (h2 : RS tApi_Oper w0 X0 a2 l_ c2) (h3 : RS tApi_Pick w0 X0 a3 picks c3) :
  Ret Try.prog 70 #[.agg #[.int .i64 o_.States, .int .i64 o_.Kinds, .int .i64 o_.Init, .slice a1 o_.Rows.length c1], .slice a2 l_.length c2, .slice a3 picks.length c3] xnone w0 X0 (fun w X' v => ∃ r, Q r /\ v = .tuple #[.int .i64 r.1, .int .i64 r.2]) := by
 unfold VC70 at hm
 replace hm := hm (h1.sm kr)
 replace hm := hm (h2.sm kr)
 replace hm := hm (h3.sm kr)
 refine enter Try.func70 rfl (vals := [.agg #[.int .i64 o_.States, .int .i64 o_.Kinds, .int .i64 o_.Init, .slice a1 o_.Rows.length c1], .slice a2 l_.length c2, .slice a3 picks.length c3]) kr ?_
 intro Z a hS hO hM
 replace h1 := h1.m0 hM
 replace h2 := h2.m0 hM
 replace h3 := h3.m0 hM
 refine rM T hS ⟨[(1, Sl a2 l_ c2), (2, Sl a3 picks c3), (3, Pt 4 0)], [(4, (24, (cO o_ a1 c1)))]⟩ fun Z a w127 X128 hS hE hr => ?_
 replace hO := hO.m2 hE
 replace h1 := h1.m1 hE
 replace h2 := h2.m1 hE
 replace h3 := h3.m1 hE
 clear hE hr
 refine regO ?_
 refine oPb T hS 1 [(1, Sl a2 l_ c2), (2, Sl a3 picks c3), (3, Pt 4 0), (18, V (.agg #[.int .i64 o_.States, .int .i64 o_.Kinds, .int .i64 o_.Init, .slice a1 o_.Rows.length c1]))] fun a hS => ?_
 obtain ⟨hq, hm⟩ := hm
 refine op1 (call hS kr kr hb38 kr (fun _ _ => rfl) (k38 _ _ o_ a1 c1 hq h1) ?_)
 intro v101 a w102 X103 hE hp hS
 replace hO := hO.m2 hE
 replace h1 := h1.m1 hE
 replace h2 := h2.m1 hE
 replace h3 := h3.m1 hE
 obtain ⟨r104, hr⟩ : ∃ r, object_Check o_ = r := ⟨_, rfl⟩
 replace hm := hm r104 hr
 rw [hr] at hp
 clear hr
 subst hp
 refine ePb T hS [(1, Sl a2 l_ c2), (2, Sl a3 picks c3), (3, Pt 4 0), (9, I r104.2)] fun a hS => ?_
 refine regO ?_
 refine oPb T hS 1 [(1, Sl a2 l_ c2), (2, Sl a3 picks c3), (3, Pt 4 0), (9, I r104.2), (23, Sl a2 l_ c2)] fun a hS => ?_
 refine op1 (call hS kr kr hb63 kr (fun _ _ => rfl) (k63 _ _ l_ a2 c2 h2) ?_)
 intro v105 a w106 X107 hE hp hS
 replace hO := hO.m2 hE
 replace h1 := h1.m1 hE
 replace h2 := h2.m1 hE
 replace h3 := h3.m1 hE
 obtain ⟨r108, hr⟩ : ∃ r, oper_Check l_ = r := ⟨_, rfl⟩
 replace hm := hm r108 hr
 rw [hr] at hp
 clear hr
 subst hp
 refine ePb T hS [(1, Sl a2 l_ c2), (2, Sl a3 picks c3), (3, Pt 4 0), (9, I r104.2), (11, I r108.2)] fun a hS => ?_
 refine wseq ?_
 refine rPb T hS [(1, Sl a2 l_ c2), (2, Sl a3 picks c3), (3, Pt 4 0), (32, B ((r104.2 != 0) || (r108.2 != 0)))] (sp := [29]) fun a hS => ?_
 refine wcond hS (b := ((r104.2 != 0) || (r108.2 != 0))) kr (fun hb => ?_) fun hb => ?_
 ·replace hm := hm.1 hb
  refine rP T hS ⟨[(6, I (-1)), (7, I 2)], []⟩ fun a hS => ?_
  refine wret ?_
  exact fin T hS hO (fun c => c) rfl (r := [.int .i64 (-1), .int .i64 2]) kr (fun X' hM hC => ⟨((-1), 2), hm, rfl⟩)
 replace hm := hm.2 hb
 refine wskip (wseq ?_)
 refine regO ?_
 refine oP T hS 3 ⟨[(1, Sl a2 l_ c2), (2, Sl a3 picks c3), (34, V (.agg #[.int .i64 o_.States, .int .i64 o_.Kinds, .int .i64 o_.Init, .slice a1 o_.Rows.length c1])), (35, Sl a2 l_ c2), (36, Sl a3 picks c3)], []⟩ fun a hS => ?_
 obtain ⟨hq, hm⟩ := hm
 refine op1 (call hS kr kr hb80 kr (fun _ _ => rfl) (k80 _ _ o_ l_ picks a1 c1 a2 c2 a3 c3 hq h1 h2 h3) ?_)
 intro v109 a w110 X111 hE hp hS
 replace hO := hO.m2 hE
 replace h1 := h1.m1 hE
 replace h2 := h2.m1 hE
 replace h3 := h3.m1 hE
 obtain ⟨r112, hr⟩ : ∃ r, run_Picks o_ l_ picks = r := ⟨_, rfl⟩
 replace hm := hm r112 hr
 rw [hr] at hp
 clear hr
 subst hp
 refine ePb T hS [(1, Sl a2 l_ c2), (2, Sl a3 picks c3), (13, I r112.2.1), (14, I r112.2.2)] fun a hS => ?_
 refine rPb T hS [(1, Sl a2 l_ c2), (2, Sl a3 picks c3), (13, I r112.2.1), (14, I r112.2.2), (42, B (r112.2.2 != 0))] fun a hS => ?_
 refine wcond hS (b := (r112.2.2 != 0)) kr (fun hb => ?_) fun hb => ?_
 ·replace hm := hm.1 hb
  refine rPb T hS [(6, I r112.2.1), (7, I r112.2.2)] fun a hS => ?_
  refine wret ?_
  exact fin T hS hO (fun c => c) rfl (r := [.int .i64 r112.2.1, .int .i64 r112.2.2]) kr (fun X' hM hC => ⟨(r112.2.1, r112.2.2), hm, rfl⟩)
 replace hm := hm.2 hb
 refine wskip (wseq ?_)
 refine regO ?_
 refine oPb T hS 2 [(1, Sl a2 l_ c2), (2, Sl a3 picks c3), (45, Sl a2 l_ c2), (46, Sl a3 picks c3)] fun a hS => ?_
 refine op1 (call hS kr kr hb81 kr (fun _ _ => rfl) (k81 _ _ l_ picks a2 c2 a3 c3 h2 h3) ?_)
 intro v113 a w114 X115 hE hp hS
 replace hO := hO.m2 hE
 replace h2 := h2.m1 hE
 replace h3 := h3.m1 hE
 obtain ⟨r116, hr⟩ : ∃ r, witness_Order l_ picks = r := ⟨_, rfl⟩
 replace hm := hm r116 hr
 rw [hr] at hp
 clear hr
 subst hp
 refine ePb T hS [(1, Sl a2 l_ c2), (2, Sl a3 picks c3), (15, I r116)] fun a hS => ?_
 refine rPb T hS [(1, Sl a2 l_ c2), (2, Sl a3 picks c3), (15, I r116), (49, B (decide (r116 ≥ 0)))] fun a hS => ?_
 refine wcond hS (b := decide (r116 ≥ 0)) kr (fun hb => ?_) fun hb => ?_
 ·replace hm := hm.1 hb
  refine rPb T hS [(6, I r116), (7, I 42)] fun a hS => ?_
  refine wret ?_
  exact fin T hS hO (fun c => c) rfl (r := [.int .i64 r116, .int .i64 42]) kr (fun X' hM hC => ⟨(r116, 42), hm, rfl⟩)
 replace hm := hm.2 hb
 refine wskip (wseq ?_)
 refine regO ?_
 refine oPb T hS 2 [(2, Sl a3 picks c3), (51, Sl a2 l_ c2), (52, Sl a3 picks c3)] fun a hS => ?_
 obtain ⟨hq, hm⟩ := hm
 refine op1 (call hS kr kr hb82 kr (fun _ _ => rfl) (k82 _ _ l_ picks a2 c2 a3 c3 hq h2 h3) ?_)
 intro v117 a w118 X119 hE hp hS
 replace hO := hO.m2 hE
 replace h2 := h2.m1 hE
 replace h3 := h3.m1 hE
 obtain ⟨a121, c122, hp, h123⟩ := hp
 obtain ⟨r120, hr⟩ : ∃ r, witness_Missing l_ picks = r := ⟨_, rfl⟩
 replace hm := hm r120 hr
 rw [hr] at hp h123
 clear hr
 subst hp
 replace hm := hm (h123.sm kr)
 refine ePb T hS [(2, Sl a3 picks c3), (16, Sl a121 r120 c122)] fun a hS => ?_
 refine rPb T hS [(2, Sl a3 picks c3), (16, Sl a121 r120 c122), (56, B (decide ((lN r120) > 0)))] fun a hS => ?_
 refine wcond hS (b := decide ((lN r120) > 0)) kr (fun hb => ?_) fun hb => ?_
 ·replace hm := hm.1 hb
  refine regO ?_
  refine oPb T hS 1 [(57, Sl a121 r120 c122)] fun a hS => ?_
  obtain ⟨hq, hm⟩ := hm
  refine op1 (index (e := 3) (k := .i64) T hS kr kr kr kr h123 kr kr hq.1 hq.2 ?_)
  intro A124 a h125 hS
  refine op1 (load1 T hS kr kr kr h125 rfl kr ?_)
  intro v126 a hv hS
  cases hv
  refine ePb T hS [(6, I (gi r120 0)), (7, I 41)] fun a hS => ?_
  refine wret ?_
  exact fin T hS hO (fun c => c) rfl (r := [.int .i64 (gi r120 0), .int .i64 41]) kr (fun X' hM hC => ⟨(gi r120 0, 41), hm, rfl⟩)
 replace hm := hm.2 hb
 refine wskip ?_
 refine rPb T hS [(6, I (lN picks)), (7, I 0)] fun a hS => ?_
 refine wret ?_
 exact fin T hS hO (fun c => c) rfl (r := [.int .i64 (lN picks), .int .i64 0]) kr (fun X' hM hC => ⟨((lN picks), 0), hm, rfl⟩)
theorem C70 (k38 : S38) (k63 : S63) (k80 : S80) (k81 : S81) (k82 : S82) (v : ∀ (o_ : Api_Object) (l_ : List Api_Oper) (picks : List Api_Pick), preO2 o_ l_ picks -> VC70 o_ l_ picks (fun r => r = witness_Check o_ l_ picks)) : S70 := by
 intro w X o_ l_ picks a1 c1 a2 c2 a3 c3   hp h1 h2 h3
 refine (W70 k38 k63 k80 k81 k82 w X o_ l_ picks a1 c1 a2 c2 a3 c3   _ (v o_ l_ picks hp) h1 h2 h3).mono ?_
 rintro _ _ _ _ ⟨r, rfl, h⟩
 exact h
theorem W55 (k70 : S70) (w0) (X0) (o_ : Api_Object) (l_ : List Api_Oper) (picks : List Api_Pick) (a1) (c1) (a2) (c2) (a3) (c3) (Q : Bool -> Prop) (hm : VC55 o_ l_ picks Q) (h1 : RS tApi_Row w0 X0 a1 o_.Rows c1) (h2 : RS tApi_Oper w0 X0 a2 l_ c2) (h3 : RS tApi_Pick w0 X0 a3 picks c3) :
  Ret Try.prog 55 #[.agg #[.int .i64 o_.States, .int .i64 o_.Kinds, .int .i64 o_.Init, .slice a1 o_.Rows.length c1], .slice a2 l_.length c2, .slice a3 picks.length c3] xnone w0 X0 (fun w X' v => ∃ r, Q r /\ v = .bool r) := by
 unfold VC55 at hm
 replace hm := hm (h1.sm kr)
 replace hm := hm (h2.sm kr)
 replace hm := hm (h3.sm kr)
 refine enter Try.func55 rfl (vals := [.agg #[.int .i64 o_.States, .int .i64 o_.Kinds, .int .i64 o_.Init, .slice a1 o_.Rows.length c1], .slice a2 l_.length c2, .slice a3 picks.length c3]) kr ?_
 intro Z a hS hO hM
 replace h1 := h1.m0 hM
 replace h2 := h2.m0 hM
 replace h3 := h3.m0 hM
 refine rM T hS ⟨[(1, Sl a2 l_ c2), (2, Sl a3 picks c3), (3, Pt 4 0)], [(4, (24, (cO o_ a1 c1)))]⟩ fun Z a w105 X106 hS hE hr => ?_
 replace hO := hO.m2 hE
 replace h1 := h1.m1 hE
 replace h2 := h2.m1 hE
 replace h3 := h3.m1 hE
 clear hE hr
 refine regO ?_
 refine oP T hS 3 ⟨[(10, V (.agg #[.int .i64 o_.States, .int .i64 o_.Kinds, .int .i64 o_.Init, .slice a1 o_.Rows.length c1])), (11, Sl a2 l_ c2), (12, Sl a3 picks c3)], []⟩ fun a hS => ?_
 obtain ⟨hq, hm⟩ := hm
 refine op1 (call hS kr kr hb70 kr (fun _ _ => rfl) (k70 _ _ o_ l_ picks a1 c1 a2 c2 a3 c3 hq h1 h2 h3) ?_)
 intro v101 a w102 X103 hE hp hS
 replace hO := hO.m2 hE
 replace h1 := h1.m1 hE
 replace h2 := h2.m1 hE
 replace h3 := h3.m1 hE
 obtain ⟨r104, hr⟩ : ∃ r, witness_Check o_ l_ picks = r := ⟨_, rfl⟩
 replace hm := hm r104 hr
 rw [hr] at hp
 clear hr
 subst hp
 refine ePb T hS [(8, I r104.2)] fun a hS => ?_
 refine rPb T hS [(6, B (r104.2 == 0))] fun a hS => ?_
 refine wret ?_
 exact fin T hS hO (fun c => c) rfl (r := [.bool (r104.2 == 0)]) kr (fun X' hM hC => ⟨(r104.2 == 0), hm, rfl⟩)
theorem C55 (k70 : S70) (v : ∀ (o_ : Api_Object) (l_ : List Api_Oper) (picks : List Api_Pick), preO2 o_ l_ picks -> VC55 o_ l_ picks (fun r => r = witness_Is o_ l_ picks)) : S55 := by
 intro w X o_ l_ picks a1 c1 a2 c2 a3 c3   hp h1 h2 h3
 refine (W55 k70 w X o_ l_ picks a1 c1 a2 c2 a3 c3   _ (v o_ l_ picks hp) h1 h2 h3).mono ?_
 rintro _ _ _ _ ⟨r, rfl, h⟩
 exact h
theorem W85 (w0) (X0) (i_ : Int) (cap1 : List Bool) (a1) (c1) (b1) (i1) (Q : Bool -> Prop) (hm : VC85 i_ cap1 Q) (h1 : RS tBool w0 X0 a1 cap1 c1) (hc1 : Cell w0 X0 b1 i1 115 [.slice a1 cap1.length c1]) (hA : Apart [i1]) :
  Ret Try.prog 85 #[.int .i64 i_, .pointer (some ⟨b1, 0, none⟩)] (pR [i1]) w0 X0 (fun w X' v => ∃ r, Q r /\ v = .bool r /\ Cell w X' b1 i1 115 [.slice a1 cap1.length c1]) := by
 unfold VC85 at hm
 replace hm := hm (h1.sm kr)
 refine enterR Try.func85 rfl (f0of [(i1, 901)]) (fun id => (bif Nat.beq id 901 then b1 else 0)) (args := [I i_, Pt 901 0]) (bxs := [(901, (115, [Sl a1 cap1 c1]))]) kr rfl (BoxesOK.cons kr (hc1.map (f0of_at 0 hA.1 rfl)) BoxesOK.nil) (f0of_0 (fun q hq => (hA.2 q.1 (List.mem_map.2 ⟨q, hq, rfl⟩)).1)) ?_
 intro a hS hO hM
 have hP : Pin [(901, b1)] (fun id => (bif Nat.beq id 901 then b1 else 0)) := by intro q hq; simp at hq; rcases hq with rfl <;> rfl
 generalize (fun id => (bif Nat.beq id 901 then b1 else 0)) = Z at hS hP
 clear hc1
 replace h1 := h1.m0 hM
 refine rPb T hS [(0, I i_), (1, Pt 901 0)] fun a hS => ?_
 refine regO ?_
 refine oPb T hS 5 [(0, I i_), (1, Pt 901 0), (8, B (decide (i_ < (lN cap1))))] fun a hS => ?_
 rcases bft (decide (i_ < (lN cap1))) with hb | hb
 ·replace hS := hS.lit (t := 8) kr hb
  replace hm := hm.1 hb
  refine oPb T hS 2 [(8, B true), (9, Sl a1 cap1 c1), (10, I i_)] fun a hS => ?_
  obtain ⟨hq, hm⟩ := hm
  refine op1 (index (e := 4) (k := .i64) T hS kr kr kr kr h1 kr kr hq.1 hq.2 ?_)
  intro A101 a h102 hS
  refine op1 (load1 T hS kr kr kr h102 rfl kr ?_)
  intro v103 a hv hS
  cases hv
  refine ePb T hS [(3, B (gi cap1 i_))] fun a hS => ?_
  refine wret ?_
  exact finR T hS hO (fun c h => f0of_zero kr h) (fun c h => f0of_else (l := [(i1, 901)]) h) (f1of [(i1, 901)]) rfl (r := [.bool (gi cap1 i_)]) kr (fun X' hM hC => ⟨(gi cap1 i_), hm, rfl, ((hS.cell (id := 901) (t := 115) (cs := [Sl a1 cap1 c1]) kr).out (f := (f1of [(i1, 901)])) hC kr kr (hP.at 0 rfl))⟩)
 replace hS := hS.lit (t := 8) kr hb
 replace hm := hm.2 hb
 refine ePb T hS [(3, B false)] fun a hS => ?_
 refine wret ?_
 exact finR T hS hO (fun c h => f0of_zero kr h) (fun c h => f0of_else (l := [(i1, 901)]) h) (f1of [(i1, 901)]) rfl (r := [.bool false]) kr (fun X' hM hC => ⟨false, hm, rfl, ((hS.cell (id := 901) (t := 115) (cs := [Sl a1 cap1 c1]) kr).out (f := (f1of [(i1, 901)])) hC kr kr (hP.at 0 rfl))⟩)
theorem C85 (v : ∀ (i_ : Int) (cap1 : List Bool), preF1 i_ cap1 -> VC85 i_ cap1 (fun r => r = oper_Free_1 i_ cap1)) : S85 := by
 intro w X i_ cap1 a1 c1  b1 i1 hp h1 hc1 hA
 refine (W85 w X i_ cap1 a1 c1  b1 i1 _ (v i_ cap1 hp) h1 hc1 hA).mono ?_
 rintro _ _ _ _ ⟨r, rfl, h⟩
 exact h
theorem W79 (k76 : S76) (k85 : S85) (w0) (X0) (l_ : List Api_Oper) (done : List Bool) (a1) (c1) (a2) (c2) (Q : (List Int) -> Prop) (hm : VC79 l_ done Q) (h1 : RS tApi_Oper w0 X0 a1 l_ c1) (h2 : RS tBool w0 X0 a2 done c2) :
  Ret Try.prog 79 #[.slice a1 l_.length c1, .slice a2 done.length c2] xnone w0 X0 (fun w X' v => ∃ r, Q r /\ ∃ ra1 rc1, v = .slice ra1 r.length rc1 /\ RS tI w X' ra1 r rc1) := by
 unfold VC79 at hm
 replace hm := hm (h1.sm kr)
 replace hm := hm (h2.sm kr)
 refine enter Try.func79 rfl (vals := [.slice a1 l_.length c1, .slice a2 done.length c2]) kr ?_
 intro Z a hS hO hM
 replace h1 := h1.m0 hM
 replace h2 := h2.m0 hM
 refine rM T hS ⟨[(0, Sl a1 l_ c1), (3, Pt 4 0)], [(4, (115, [Sl a2 done c2]))]⟩ fun Z a w194 X195 hS hE hr => ?_
 replace hO := hO.m2 hE
 replace h1 := h1.m1 hE
 replace h2 := h2.m1 hE
 clear hE hr
 refine rPb T hS [(0, Sl a1 l_ c1), (5, .f (.func 85) [] [.p 4 0])] fun a hS => ?_
 refine rPb T hS [(0, Sl a1 l_ c1), (5, .f (.func 85) [] [.p 4 0]), (6, V (.slice none 0 0))] fun a hS => ?_
 refine wcut (fun a w => ∃ (Z : Nat -> Nat) (X : Nat -> Nat) (y101 : List Int) (a102 : Option Addr) (c103 : Nat), VC79_J1 Q y101 /\ St Try.f79.ntmps ⟨[(6, Sl a102 y101 c103)], []⟩ Z a w X /\ Old w0 X0 w X /\ OS tI 3 w X 1005 a102 y101 c103) ?_ ?_
 ·refine rPb T hS [(0, Sl a1 l_ c1), (5, .f (.func 85) [] [.p 4 0]), (6, V (.slice none 0 0)), (13, Sl a1 l_ c1), (14, I (lN l_)), (15, I 0)] fun a hS => ?_
  refine wblock ?_
  obtain ⟨I1, μ1, hm0, hm⟩ := hm
  refine wloop (σ := (List Int) × Int) (fun s a w => ∃ Z X a109 c110, I1 s.1 s.2 /\ St Try.f79.ntmps ⟨[(0, Sl a1 l_ c1), (5, .f (.func 85) [] [.p 4 0]), (6, Sl a109 s.1 c110), (13, Sl a1 l_ c1), (14, I (lN l_)), (15, I s.2)], [(4, (115, [Sl a2 done c2]))]⟩ Z a w X /\ Old w0 X0 w X /\ RS tApi_Oper w X a1 l_ c1 /\ OS tI 3 w X 1005 a109 s.1 c110 /\ RS tApi_Oper w X a1 l_ c1 /\ RS tBool w X a2 done c2) (fun s => μ1 s.1 s.2) (⟨[], 0⟩) ?_ ?_
  ·exact ⟨Z, _, none, 0, hm0, hS.sl _, hO, h1, (OS.nil _ _ _ _ _), h1, h2⟩
  rintro ⟨y108, y113⟩ a w191 ⟨Z, X190, a109, c110, hI, hS, hO, h107, h111, h112, h114⟩
  replace hm := hm y108 y113 hI
  clear hI hm0
  refine rPb T hS [(0, Sl a1 l_ c1), (5, .f (.func 85) [] [.p 4 0]), (6, Sl a109 y108 c110), (13, Sl a1 l_ c1), (14, I (lN l_)), (15, I y113), (16, B (decide (y113 < (lN l_))))] fun a hS => ?_
  refine wseq ?_
  refine wcond hS (b := decide (y113 < (lN l_))) kr (fun hb => ?_) fun hb => ?_
  ·replace hm := hm.1 hb
   refine wskip ?_
   refine wcut (fun a w => ∃ (Z : Nat -> Nat) (X : Nat -> Nat) (y116 : List Int) (a117 : Option Addr) (c118 : Nat), VC79_J2 I1 μ1 y108 y113 y116 /\ St Try.f79.ntmps ⟨[(0, Sl a1 l_ c1), (5, .f (.func 85) [] [.p 4 0]), (6, Sl a117 y116 c118), (13, Sl a1 l_ c1), (14, I (lN l_)), (15, I y113)], [(4, (115, [Sl a2 done c2]))]⟩ Z a w X /\ Old w0 X0 w X /\ RS tApi_Oper w X a1 l_ c1 /\ OS tI 3 w X 1005 a117 y116 c118 /\ RS tApi_Oper w X a1 l_ c1 /\ RS tBool w X a2 done c2) ?_ ?_
   ·refine wblock ?_
    refine regO ?_
    refine oPb T hS 1 [(0, Sl a1 l_ c1), (5, .f (.func 85) [] [.p 4 0]), (6, Sl a109 y108 c110), (13, Sl a1 l_ c1), (14, I (lN l_)), (15, I y113), (17, I y113)] fun a hS => ?_
    obtain ⟨hq, hm⟩ := hm
    refine op1 (index (e := 61) (k := .i64) T hS kr kr kr kr h112 kr kr hq.1 hq.2 ?_)
    intro A122 a h123 hS
    refine op1 (loadA T hS kr kr kr h123 kr kr ?_)
    intro v124 a hv hS
    subst hv
    refine eM T hS ⟨[(0, Sl a1 l_ c1), (5, .f (.func 85) [] [.p 4 0]), (6, Sl a109 y108 c110), (7, I y113), (8, Pt 9 0), (13, Sl a1 l_ c1), (14, I (lN l_)), (15, I y113)], [(4, (115, [Sl a2 done c2])), (9, (61, (cP (gi l_ y113))))]⟩ fun Z a w186 X187 hS hE hr => ?_
    replace hO := hO.m2 hE
    replace h107 := h107.m1 hE
    replace h111 := h111.m2 hE
    replace h112 := h112.m1 hE
    replace h114 := h114.m1 hE
    clear hE hr
    refine regO ?_
    refine oPb T hS 2 [(0, Sl a1 l_ c1), (5, .f (.func 85) [] [.p 4 0]), (6, Sl a109 y108 c110), (7, I y113), (8, Pt 9 0), (13, Sl a1 l_ c1), (14, I (lN l_)), (15, I y113), (20, .f (.func 85) [] [.p 4 0]), (21, I y113)] fun a hS => ?_
    obtain ⟨hq, hm⟩ := hm
    refine op1 (callCR (fi := []) (cp := [.p 4 0]) hS kr kr hb85 kr kr (k85 _ _ y113 done a2 c2 (Z 4) 4 hq h114 (hS.cell (id := 4) (t := 115) (cs := [Sl a2 done c2]) kr) ⟨by decide, by decide⟩) ?_)
    intro v125 a w126 X127 hE hp hS
    replace hO := hO.m2 hE
    replace h107 := h107.m1 hE
    replace h111 := h111.m2 hE
    replace h112 := h112.m1 hE
    replace h114 := h114.m1 hE
    obtain ⟨hp, hc129⟩ := hp
    obtain ⟨r128, hr⟩ : ∃ r, oper_Free_1 y113 done = r := ⟨_, rfl⟩
    replace hm := hm r128 hr
    rw [hr] at hp
    clear hr
    subst hp
    replace hS := hS.addbox (id := 4) (t := 115) (cs := [Sl a2 done c2]) kr hc129
    clear hc129
    refine ePb T hS [(0, Sl a1 l_ c1), (5, .f (.func 85) [] [.p 4 0]), (6, Sl a109 y108 c110), (7, I y113), (8, Pt 9 0), (9, B (!r128)), (13, Sl a1 l_ c1), (14, I (lN l_)), (15, I y113)] fun a hS => ?_
    refine wcut (fun a w => ∃ (Z : Nat -> Nat) (X : Nat -> Nat) (y131 : List Int) (y135 : Bool) (a132 : Option Addr) (c133 : Nat), VC79_J3 I1 μ1 y108 y113 y131 y135 /\ St Try.f79.ntmps ⟨[(0, Sl a1 l_ c1), (5, .f (.func 85) [] [.p 4 0]), (6, Sl a132 y131 c133), (7, I y113), (9, B y135), (13, Sl a1 l_ c1), (14, I (lN l_)), (15, I y113)], [(4, (115, [Sl a2 done c2]))]⟩ Z a w X /\ Old w0 X0 w X /\ RS tApi_Oper w X a1 l_ c1 /\ OS tI 3 w X 1005 a132 y131 c133 /\ RS tApi_Oper w X a1 l_ c1 /\ RS tBool w X a2 done c2) ?_ ?_
    ·refine rPb T hS [(0, Sl a1 l_ c1), (5, .f (.func 85) [] [.p 4 0]), (6, Sl a109 y108 c110), (7, I y113), (8, Pt 9 0), (9, B (!r128)), (13, Sl a1 l_ c1), (14, I (lN l_)), (15, I y113), (24, Sl a1 l_ c1), (25, I (lN l_)), (26, I 0)] fun a hS => ?_
     refine wblock ?_
     obtain ⟨I2, μ2, hm0, hm⟩ := hm
     refine wloop (σ := (List Int) × Bool × Int) (fun s a w => ∃ Z X a149 c150, I2 s.1 s.2.1 s.2.2 /\ St Try.f79.ntmps ⟨[(0, Sl a1 l_ c1), (5, .f (.func 85) [] [.p 4 0]), (6, Sl a149 s.1 c150), (7, I y113), (8, Pt 9 0), (9, B s.2.1), (13, Sl a1 l_ c1), (14, I (lN l_)), (15, I y113), (24, Sl a1 l_ c1), (25, I (lN l_)), (26, I s.2.2)], [(4, (115, [Sl a2 done c2])), (9, (61, (cP (gi l_ y113))))]⟩ Z a w X /\ Old w0 X0 w X /\ RS tApi_Oper w X a1 l_ c1 /\ OS tI 3 w X 1005 a149 s.1 c150 /\ RS tApi_Oper w X a1 l_ c1 /\ RS tApi_Oper w X a1 l_ c1 /\ RS tBool w X a2 done c2) (fun s => μ2 s.1 s.2.1 s.2.2) (⟨y108, (!r128), 0⟩) ?_ ?_
     ·exact ⟨Z, _, a109, c110, hm0, hS.sl _, hO, h107, h111, h112, h107, h114⟩
     rintro ⟨y148, y152, y155⟩ a w183 ⟨Z, X182, a149, c150, hI, hS, hO, h147, h151, h153, h154, h156⟩
     replace hm := hm y148 y152 y155 hI
     clear hI hm0
     refine rPb T hS [(0, Sl a1 l_ c1), (5, .f (.func 85) [] [.p 4 0]), (6, Sl a149 y148 c150), (7, I y113), (8, Pt 9 0), (9, B y152), (13, Sl a1 l_ c1), (14, I (lN l_)), (15, I y113), (24, Sl a1 l_ c1), (25, I (lN l_)), (26, I y155), (27, B (decide (y155 < (lN l_))))] fun a hS => ?_
     refine wseq ?_
     refine wcond hS (b := decide (y155 < (lN l_))) kr (fun hb => ?_) fun hb => ?_
     ·replace hm := hm.1 hb
      refine wskip ?_
      refine wcut (fun a w => ∃ (Z : Nat -> Nat) (X : Nat -> Nat) (y158 : List Int) (y162 : Bool) (a159 : Option Addr) (c160 : Nat), VC79_J4 I2 μ2 y148 y152 y155 y158 y162 /\ St Try.f79.ntmps ⟨[(0, Sl a1 l_ c1), (5, .f (.func 85) [] [.p 4 0]), (6, Sl a159 y158 c160), (7, I y113), (8, Pt 9 0), (9, B y162), (13, Sl a1 l_ c1), (14, I (lN l_)), (15, I y113), (24, Sl a1 l_ c1), (25, I (lN l_)), (26, I y155)], [(4, (115, [Sl a2 done c2])), (9, (61, (cP (gi l_ y113))))]⟩ Z a w X /\ Old w0 X0 w X /\ RS tApi_Oper w X a1 l_ c1 /\ OS tI 3 w X 1005 a159 y158 c160 /\ RS tApi_Oper w X a1 l_ c1 /\ RS tApi_Oper w X a1 l_ c1 /\ RS tBool w X a2 done c2) ?_ ?_
      ·refine wblock ?_
       refine regO ?_
       refine oPb T hS 1 [(0, Sl a1 l_ c1), (5, .f (.func 85) [] [.p 4 0]), (6, Sl a149 y148 c150), (7, I y113), (8, Pt 9 0), (9, B y152), (13, Sl a1 l_ c1), (14, I (lN l_)), (15, I y113), (24, Sl a1 l_ c1), (25, I (lN l_)), (26, I y155), (28, I y155)] fun a hS => ?_
       obtain ⟨hq, hm⟩ := hm
       refine op1 (index (e := 61) (k := .i64) T hS kr kr kr kr h154 kr kr hq.1 hq.2 ?_)
       intro A166 a h167 hS
       refine op1 (loadA T hS kr kr kr h167 kr kr ?_)
       intro v168 a hv hS
       subst hv
       refine eM T hS ⟨[(0, Sl a1 l_ c1), (5, .f (.func 85) [] [.p 4 0]), (6, Sl a149 y148 c150), (7, I y113), (8, Pt 9 0), (9, B y152), (10, I y155), (11, Pt 12 0), (13, Sl a1 l_ c1), (14, I (lN l_)), (15, I y113), (24, Sl a1 l_ c1), (25, I (lN l_)), (26, I y155)], [(4, (115, [Sl a2 done c2])), (9, (61, (cP (gi l_ y113)))), (12, (61, (cP (gi l_ y155))))]⟩ fun Z a w178 X179 hS hE hr => ?_
       replace hO := hO.m2 hE
       replace h147 := h147.m1 hE
       replace h151 := h151.m2 hE
       replace h153 := h153.m1 hE
       replace h154 := h154.m1 hE
       replace h156 := h156.m1 hE
       clear hE hr
       refine region ?_
       refine oPb T hS 2 [(0, Sl a1 l_ c1), (5, .f (.func 85) [] [.p 4 0]), (6, Sl a149 y148 c150), (7, I y113), (8, Pt 9 0), (9, B y152), (10, I y155), (11, Pt 12 0), (13, Sl a1 l_ c1), (14, I (lN l_)), (15, I y113), (24, Sl a1 l_ c1), (25, I (lN l_)), (26, I y155), (32, B y152)] fun a hS => ?_
       rcases bft y152 with hb | hb
       ·replace hS := hS.lit (t := 32) kr hb
        replace hm := hm.1 hb
        refine oPb T hS 2 [(0, Sl a1 l_ c1), (5, .f (.func 85) [] [.p 4 0]), (6, Sl a149 y148 c150), (7, I y113), (8, Pt 9 0), (9, B y152), (11, Pt 12 0), (13, Sl a1 l_ c1), (14, I (lN l_)), (15, I y113), (24, Sl a1 l_ c1), (25, I (lN l_)), (26, I y155), (32, B true), (33, .f (.func 85) [] [.p 4 0]), (34, I y155)] fun a hS => ?_
        obtain ⟨hq, hm⟩ := hm
        refine op1 (callCR (fi := []) (cp := [.p 4 0]) hS kr kr hb85 kr kr (k85 _ _ y155 done a2 c2 (Z 4) 4 hq h156 (hS.cell (id := 4) (t := 115) (cs := [Sl a2 done c2]) kr) ⟨by decide, by decide⟩) ?_)
        intro v169 a w170 X171 hE hp hS
        replace hO := hO.m2 hE
        replace h147 := h147.m1 hE
        replace h151 := h151.m2 hE
        replace h153 := h153.m1 hE
        replace h154 := h154.m1 hE
        replace h156 := h156.m1 hE
        obtain ⟨hp, hc173⟩ := hp
        obtain ⟨r172, hr⟩ : ∃ r, oper_Free_1 y155 done = r := ⟨_, rfl⟩
        replace hm := hm r172 hr
        rw [hr] at hp
        clear hr
        subst hp
        replace hS := hS.addbox (id := 4) (t := 115) (cs := [Sl a2 done c2]) kr hc173
        clear hc173
        refine oPb T hS 1 [(0, Sl a1 l_ c1), (5, .f (.func 85) [] [.p 4 0]), (6, Sl a149 y148 c150), (7, I y113), (8, Pt 9 0), (9, B y152), (11, Pt 12 0), (13, Sl a1 l_ c1), (14, I (lN l_)), (15, I y113), (24, Sl a1 l_ c1), (25, I (lN l_)), (26, I y155), (32, B true), (36, B r172)] fun a hS => ?_
        rcases bft r172 with hb | hb
        ·replace hS := hS.lit (t := 36) kr hb
         replace hm := hm.1 hb
         refine eP T hS ⟨[(0, Sl a1 l_ c1), (5, .f (.func 85) [] [.p 4 0]), (6, Sl a149 y148 c150), (7, I y113), (8, Pt 9 0), (9, B true), (13, Sl a1 l_ c1), (14, I (lN l_)), (15, I y113), (24, Sl a1 l_ c1), (25, I (lN l_)), (26, I y155)], [(4, (115, [Sl a2 done c2])), (9, (61, (cP (gi l_ y113))))]⟩ fun a hS => ?_
         exact ⟨Z, _, y148, true, a149, c150, hm, hS.sl _, hO, h147, h151, h153, h154, h156⟩
        replace hS := hS.lit (t := 36) kr hb
        replace hm := hm.2 hb
        refine oP T hS 2 ⟨[(0, Sl a1 l_ c1), (5, .f (.func 85) [] [.p 4 0]), (6, Sl a149 y148 c150), (7, I y113), (8, Pt 9 0), (9, B y152), (13, Sl a1 l_ c1), (14, I (lN l_)), (15, I y113), (24, Sl a1 l_ c1), (25, I (lN l_)), (26, I y155), (32, B true), (36, B false), (37, V (.agg #[.int .i64 ((gi l_ y155).Prc), .int .i64 ((gi l_ y155).Kind), .int .i64 ((gi l_ y155).Start), .int .i64 ((gi l_ y155).End), .int .i64 ((gi l_ y155).Result)])), (38, V (.agg #[.int .i64 ((gi l_ y113).Prc), .int .i64 ((gi l_ y113).Kind), .int .i64 ((gi l_ y113).Start), .int .i64 ((gi l_ y113).End), .int .i64 ((gi l_ y113).Result)]))], [(4, (115, [Sl a2 done c2])), (9, (61, (cP (gi l_ y113))))]⟩ fun a hS => ?_
        refine op1 (call hS kr kr hb76 kr (fun _ _ => rfl) (k76 _ _ (gi l_ y155) (gi l_ y113)) ?_)
        intro v174 a w175 X176 hE hp hS
        replace hO := hO.m2 hE
        replace h147 := h147.m1 hE
        replace h151 := h151.m2 hE
        replace h153 := h153.m1 hE
        replace h154 := h154.m1 hE
        replace h156 := h156.m1 hE
        obtain ⟨r177, hr⟩ : ∃ r, oper_Ahead (gi l_ y155) (gi l_ y113) = r := ⟨_, rfl⟩
        replace hm := hm r177 hr
        rw [hr] at hp
        clear hr
        subst hp
        refine ePb T hS [(0, Sl a1 l_ c1), (5, .f (.func 85) [] [.p 4 0]), (6, Sl a149 y148 c150), (7, I y113), (8, Pt 9 0), (9, B (!r177)), (13, Sl a1 l_ c1), (14, I (lN l_)), (15, I y113), (24, Sl a1 l_ c1), (25, I (lN l_)), (26, I y155)] fun a hS => ?_
        exact ⟨Z, _, y148, (!r177), a149, c150, hm, hS.sl _, hO, h147, h151, h153, h154, h156⟩
       replace hS := hS.lit (t := 32) kr hb
       replace hm := hm.2 hb
       refine eP T hS ⟨[(0, Sl a1 l_ c1), (5, .f (.func 85) [] [.p 4 0]), (6, Sl a149 y148 c150), (7, I y113), (8, Pt 9 0), (9, B false), (13, Sl a1 l_ c1), (14, I (lN l_)), (15, I y113), (24, Sl a1 l_ c1), (25, I (lN l_)), (26, I y155)], [(4, (115, [Sl a2 done c2])), (9, (61, (cP (gi l_ y113))))]⟩ fun a hS => ?_
       exact ⟨Z, _, y148, false, a149, c150, hm, hS.sl _, hO, h147, h151, h153, h154, h156⟩
      rintro a w181 ⟨Z, X180, y158, y162, a159, c160, hm, hS, hO, h157, h161, h163, h164, h165⟩
      unfold VC79_J4 at hm
      refine region (ePb T hS [(0, Sl a1 l_ c1), (5, .f (.func 85) [] [.p 4 0]), (6, Sl a159 y158 c160), (7, I y113), (8, Pt 9 0), (9, B y162), (13, Sl a1 l_ c1), (14, I (lN l_)), (15, I y113), (24, Sl a1 l_ c1), (25, I (lN l_)), (26, I (wR (y155 + 1)))] fun a hS => ?_)
      exact ⟨⟨y158, y162, wR (y155 + 1)⟩, ⟨Z, _, a159, c160, hm.1, hS.sl _, hO, h157, h161, h163, h164, h165⟩, hm.2⟩
     replace hm := hm.2 hb
     refine wexit (by rfl) ?_
     exact ⟨Z, _, y148, y152, a149, c150, hm, hS.sl _, hO, h147, h151, h153, h156⟩
    rintro a w185 ⟨Z, X184, y131, y135, a132, c133, hm, hS, hO, h130, h134, h136, h137⟩
    unfold VC79_J3 at hm
    refine rPb T hS [(0, Sl a1 l_ c1), (5, .f (.func 85) [] [.p 4 0]), (6, Sl a132 y131 c133), (7, I y113), (13, Sl a1 l_ c1), (14, I (lN l_)), (15, I y113), (44, B y135)] fun a hS => ?_
    refine wcond hS (b := y135) kr (fun hb => ?_) fun hb => ?_
    ·replace hm := hm.1 hb
     refine region ?_
     refine oPb T hS 2 [(0, Sl a1 l_ c1), (5, .f (.func 85) [] [.p 4 0]), (6, Sl a132 y131 c133), (13, Sl a1 l_ c1), (14, I (lN l_)), (15, I y113), (45, Sl a132 y131 c133), (46, I y113)] fun a hS => ?_
     refine op1 (lit (E := 3) (col := 0) (T := tI) (vals := [.int .i64 y113]) (ys := [y113]) T hS kr kr kr kr (by exact ⟨rfl, trivial⟩) rfl kr kr kr kr ?_)
     intro b138 a w139 X140 hE h141 hN hS
     clear hN
     replace hO := hO.m2 hE
     replace h130 := h130.m1 hE
     replace h134 := h134.m2 hE
     replace h136 := h136.m1 hE
     replace h137 := h137.m1 hE
     replace h141 := h141.rs0
     obtain ⟨hq, hm⟩ := hm
     obtain ⟨news, hN⟩ := h141.src
     refine op1 (append (E := 3) (T := tI) (col := 1005) (xs := y131) T hS kr kr kr kr h134 hN kr kr kr kr hq ?_)
     intro a145 c146 a w142 X143 hE h144 hS
     clear hq hN
     clear h134
     replace hO := hO.m2 hE
     replace h130 := h130.m1 hE
     replace h136 := h136.m1 hE
     replace h137 := h137.m1 hE
     replace h141 := h141.m1 hE
     refine ePb T hS [(0, Sl a1 l_ c1), (5, .f (.func 85) [] [.p 4 0]), (6, Sl a145 (y131 ++ [y113]) c146), (13, Sl a1 l_ c1), (14, I (lN l_)), (15, I y113)] fun a hS => ?_
     exact ⟨Z, _, y131 ++ [y113], a145, c146, hm, hS.sl _, hO, h130, h144, h136, h137⟩
    replace hm := hm.2 hb
    refine wskip ?_
    exact ⟨Z, _, y131, a132, c133, hm, hS.sl _, hO, h130, h134, h136, h137⟩
   rintro a w189 ⟨Z, X188, y116, a117, c118, hm, hS, hO, h115, h119, h120, h121⟩
   unfold VC79_J2 at hm
   refine region (ePb T hS [(0, Sl a1 l_ c1), (5, .f (.func 85) [] [.p 4 0]), (6, Sl a117 y116 c118), (13, Sl a1 l_ c1), (14, I (lN l_)), (15, I (wR (y113 + 1)))] fun a hS => ?_)
   exact ⟨⟨y116, wR (y113 + 1)⟩, ⟨Z, _, a117, c118, hm.1, hS.sl _, hO, h115, h119, h120, h121⟩, hm.2⟩
  replace hm := hm.2 hb
  refine wexit (by rfl) ?_
  exact ⟨Z, _, y108, a109, c110, hm, hS.sl _, hO, h111⟩
 rintro a w193 ⟨Z, X192, y101, a102, c103, hm, hS, hO, h104⟩
 unfold VC79_J1 at hm
 refine rPb T hS [(4, Sl a102 y101 c103)] fun a hS => ?_
 refine wret ?_
 obtain ⟨X105, hE, hF⟩ := h104.freeze (by decide)
 replace hS := hS.ev hE (xone_box kr)
 replace hO := hO.m2 hE
 have h106 := hF; clear hE hF
 exact fin T hS hO (fun c => c) rfl (r := [.slice a102 y101.length c103]) kr (fun X' hM hC => ⟨y101, hm, a102, c103, rfl, h106.m0 hM⟩)
theorem C79 (k76 : S76) (k85 : S85) (v : ∀ (l_ : List Api_Oper) (done : List Bool), preFr l_ done -> VC79 l_ done (fun r => r = oper_Free l_ done)) : S79 := by
 intro w X l_ done a1 c1 a2 c2   hp h1 h2
 refine (W79 k76 k85 w X l_ done a1 c1 a2 c2   _ (v l_ done hp) h1 h2).mono ?_
 rintro _ _ _ _ ⟨r, rfl, h⟩
 exact h
theorem W69 (k38 : S38) (k67 : S67) (k79 : S79) (w0) (X0) (o_ : Api_Object) (l_ : List Api_Oper) (state : Int) (done : List Bool) (a1) (c1) (a2) (c2) (a3) (c3) (col1) (Q : (List Api_Pick) -> Prop) (hm : VC69 o_ l_ state done Q) (h1 : RS tApi_Row w0 X0 a1 o_.Rows c1) (h2 : RS tApi_Oper w0 X0 a2 l_ c2) (h3 : RS tBool w0 X0 a3 done c3) :
  Ret Try.prog 69 #[.agg #[.int .i64 o_.States, .int .i64 o_.Kinds, .int .i64 o_.Init, .slice a1 o_.Rows.length c1], .slice a2 l_.length c2, .int .i64 state, .slice a3 done.length c3] xnone w0 X0 (fun w X' v => ∃ r, Q r /\ ∃ ra1 rc1, v = .slice ra1 r.length rc1 /\ OS tApi_Pick 109 w X' col1 ra1 r rc1) := by
 unfold VC69 at hm
 replace hm := hm (h1.sm kr)
 replace hm := hm (h2.sm kr)
 replace hm := hm (h3.sm kr)
 refine enter Try.func69 rfl (vals := [.agg #[.int .i64 o_.States, .int .i64 o_.Kinds, .int .i64 o_.Init, .slice a1 o_.Rows.length c1], .slice a2 l_.length c2, .int .i64 state, .slice a3 done.length c3]) kr ?_
 intro Z a hS hO hM
 replace h1 := h1.m0 hM
 replace h2 := h2.m0 hM
 replace h3 := h3.m0 hM
 refine rM T hS ⟨[(1, Sl a2 l_ c2), (2, I state), (3, Sl a3 done c3), (4, Pt 5 0)], [(5, (24, (cO o_ a1 c1)))]⟩ fun Z a w180 X181 hS hE hr => ?_
 replace hO := hO.m2 hE
 replace h1 := h1.m1 hE
 replace h2 := h2.m1 hE
 replace h3 := h3.m1 hE
 clear hE hr
 refine wseq ?_
 refine regO ?_
 refine oPb T hS 1 [(1, Sl a2 l_ c2), (2, I state), (3, Sl a3 done c3), (4, Pt 5 0), (18, V (.agg #[.int .i64 o_.States, .int .i64 o_.Kinds, .int .i64 o_.Init, .slice a1 o_.Rows.length c1]))] fun a hS => ?_
 obtain ⟨hq, hm⟩ := hm
 refine op1 (call hS kr kr hb38 kr (fun _ _ => rfl) (k38 _ _ o_ a1 c1 hq h1) ?_)
 intro v101 a w102 X103 hE hp hS
 replace hO := hO.m2 hE
 replace h1 := h1.m1 hE
 replace h2 := h2.m1 hE
 replace h3 := h3.m1 hE
 obtain ⟨r104, hr⟩ : ∃ r, object_Check o_ = r := ⟨_, rfl⟩
 replace hm := hm r104 hr
 rw [hr] at hp
 clear hr
 subst hp
 refine ePb T hS [(1, Sl a2 l_ c2), (2, I state), (3, Sl a3 done c3), (4, Pt 5 0), (10, I r104.2)] fun a hS => ?_
 refine rPb T hS [(1, Sl a2 l_ c2), (2, I state), (3, Sl a3 done c3), (4, Pt 5 0), (23, B (r104.2 != 0))] fun a hS => ?_
 refine wcond hS (b := (r104.2 != 0)) kr (fun hb => ?_) fun hb => ?_
 ·replace hm := hm.1 hb
  refine rP T hS ⟨[(8, V (.slice none 0 0))], []⟩ fun a hS => ?_
  refine wret ?_
  exact fin T hS hO (fun c => c) rfl (r := [.slice none 0 0]) kr (fun X' hM hC => ⟨[], hm, none, 0, rfl, OS.nil _ _ _ _ _⟩)
 replace hm := hm.2 hb
 refine wskip ?_
 refine rPb T hS [(1, Sl a2 l_ c2), (2, I state), (3, Sl a3 done c3), (4, Pt 5 0), (11, V (.slice none 0 0))] fun a hS => ?_
 refine wcut (fun a w => ∃ (Z : Nat -> Nat) (X : Nat -> Nat) (y105 : List Api_Pick) (a106 : Option Addr) (c107 : Nat), VC69_J1 Q y105 /\ St Try.f69.ntmps ⟨[(11, Sl a106 y105 c107)], []⟩ Z a w X /\ Old w0 X0 w X /\ OS tApi_Pick 109 w X 1009 a106 y105 c107) ?_ ?_
 ·refine regO ?_
  refine oPb T hS 2 [(1, Sl a2 l_ c2), (2, I state), (4, Pt 5 0), (11, V (.slice none 0 0)), (24, Sl a2 l_ c2), (25, Sl a3 done c3)] fun a hS => ?_
  obtain ⟨hq, hm⟩ := hm
  refine op1 (call hS kr kr hb79 kr (fun _ _ => rfl) (k79 _ _ l_ done a2 c2 a3 c3 hq h2 h3) ?_)
  intro v109 a w110 X111 hE hp hS
  replace hO := hO.m2 hE
  replace h1 := h1.m1 hE
  replace h2 := h2.m1 hE
  replace h3 := h3.m1 hE
  obtain ⟨a113, c114, hp, h115⟩ := hp
  obtain ⟨r112, hr⟩ : ∃ r, oper_Free l_ done = r := ⟨_, rfl⟩
  replace hm := hm r112 hr
  rw [hr] at hp h115
  clear hr
  subst hp
  replace hm := hm (h115.sm kr)
  refine ePb T hS [(1, Sl a2 l_ c2), (2, I state), (4, Pt 5 0), (11, V (.slice none 0 0)), (26, Sl a113 r112 c114), (27, I (lN r112)), (28, I 0)] fun a hS => ?_
  refine wblock ?_
  obtain ⟨I1, μ1, hm0, hm⟩ := hm
  refine wloop (σ := (List Api_Pick) × Int) (fun s a w => ∃ Z X a118 c119, I1 s.1 s.2 /\ St Try.f69.ntmps ⟨[(1, Sl a2 l_ c2), (2, I state), (4, Pt 5 0), (11, Sl a118 s.1 c119), (26, Sl a113 r112 c114), (27, I (lN r112)), (28, I s.2)], [(5, (24, (cO o_ a1 c1)))]⟩ Z a w X /\ Old w0 X0 w X /\ RS tApi_Oper w X a2 l_ c2 /\ OS tApi_Pick 109 w X 1009 a118 s.1 c119 /\ RS tI w X a113 r112 c114 /\ RS tApi_Row w X a1 o_.Rows c1) (fun s => μ1 s.1 s.2) (⟨[], 0⟩) ?_ ?_
  ·exact ⟨Z, _, none, 0, hm0, hS.sl _, hO, h2, (OS.nil _ _ _ _ _), h115, h1⟩
  rintro ⟨y117, y122⟩ a w177 ⟨Z, X176, a118, c119, hI, hS, hO, h116, h120, h121, h123⟩
  replace hm := hm y117 y122 hI
  clear hI hm0
  refine rPb T hS [(1, Sl a2 l_ c2), (2, I state), (4, Pt 5 0), (11, Sl a118 y117 c119), (26, Sl a113 r112 c114), (27, I (lN r112)), (28, I y122), (29, B (decide (y122 < (lN r112))))] fun a hS => ?_
  refine wseq ?_
  refine wcond hS (b := decide (y122 < (lN r112))) kr (fun hb => ?_) fun hb => ?_
  ·replace hm := hm.1 hb
   refine wskip ?_
   refine wcut (fun a w => ∃ (Z : Nat -> Nat) (X : Nat -> Nat) (y125 : List Api_Pick) (a126 : Option Addr) (c127 : Nat), VC69_J2 I1 μ1 y117 y122 y125 /\ St Try.f69.ntmps ⟨[(1, Sl a2 l_ c2), (2, I state), (4, Pt 5 0), (11, Sl a126 y125 c127), (26, Sl a113 r112 c114), (27, I (lN r112)), (28, I y122)], [(5, (24, (cO o_ a1 c1)))]⟩ Z a w X /\ Old w0 X0 w X /\ RS tApi_Oper w X a2 l_ c2 /\ OS tApi_Pick 109 w X 1009 a126 y125 c127 /\ RS tI w X a113 r112 c114 /\ RS tApi_Row w X a1 o_.Rows c1) ?_ ?_
   ·refine wblock ?_
    refine regO ?_
    obtain ⟨hq, hm⟩ := hm
    refine op1 (index (e := 3) (k := .i64) T hS kr kr kr kr h121 kr kr hq.1 hq.2 ?_)
    intro A131 a h132 hS
    refine op1 (load1 T hS kr kr kr h132 rfl kr ?_)
    intro v133 a hv hS
    cases hv
    refine ePb T hS [(1, Sl a2 l_ c2), (2, I state), (4, Pt 5 0), (11, Sl a118 y117 c119), (13, I (gi r112 y122)), (26, Sl a113 r112 c114), (27, I (lN r112)), (28, I y122)] fun a hS => ?_
    refine drawnSX [5] mixed hS ?_
    intro w134 X135 hS hE hD hH
    replace hO := hO.m2 hE
    replace h116 := h116.m1 hE
    replace h120 := h120.m2 hE
    replace h121 := h121.m1 hE
    replace h123 := h123.m1 hE
    refine tkb T [0, 1, 2, 3] [5] hS hH #[true, true, true, true, false, false, false, false, false, false, false, false, false, false, false] 11 [(1, Sl a2 l_ c2), (2, I state), (4, Pt 5 0), (11, Sl a118 y117 c119), (13, I (gi r112 y122)), (26, Sl a113 r112 c114), (27, I (lN r112)), (28, I y122), (33, V (.agg #[.int .i64 o_.States, .int .i64 o_.Kinds, .int .i64 o_.Init, .slice a1 o_.Rows.length c1])), (34, I state), (35, Sl a2 l_ c2), (36, I (gi r112 y122))] fun a hS => ?_
    obtain ⟨hq, hm⟩ := hm
    refine dindex (e := 61) (k := .i64) T 4 hS kr kr kr (by rfl) kr hH kr kr h116 kr kr hq.1 hq.2 ?_
    intro A136 a h137 hS
    have h137b := h137.here
    refine dfieldA (off := 1) (fsz := 1) (ft := 3) (TF := tI) (y := (gi l_ (gi r112 y122)).Kind) 5 T hS kr kr kr (by rfl) kr hH kr h137 kr kr kr (fun cs h => Api_Oper_f1 h) ?_
    intro A138 a h139 hbl hS
    have h139b := h137b
    rw [← hbl] at h139b
    clear hbl
    refine dload1 T 6 hS kr kr kr (by rfl) kr hH kr h139 h139b rfl kr ?_
    intro v140 a hv hS
    cases hv
    refine only 7 kr (by rfl) (call hS kr kr hb67 kr (fun _ _ => rfl) (k67 _ _ o_ state ((gi l_ (gi r112 y122)).Kind) a1 c1 h123) ?_)
    intro v141 a w142 X143 hE hp hS
    replace hO := hO.m2 hE
    replace hD := hD.ev hE rfl
    replace h116 := h116.m1 hE
    replace h120 := h120.m2 hE
    replace h121 := h121.m1 hE
    replace h123 := h123.m1 hE
    replace h137 := h137.m1 hE
    replace h139 := h139.m1 hE
    obtain ⟨r144, hr⟩ : ∃ r, object_Move o_ state ((gi l_ (gi r112 y122)).Kind) = r := ⟨_, rfl⟩
    replace hm := hm r144 hr
    rw [hr] at hp
    clear hr
    subst hp
    replace hS := hS.slb [(1, Sl a2 l_ c2), (2, I state), (4, Pt 5 0), (11, Sl a118 y117 c119), (13, I (gi r112 y122)), (26, Sl a113 r112 c114), (27, I (lN r112)), (28, I y122), (33, V (.agg #[.int .i64 o_.States, .int .i64 o_.Kinds, .int .i64 o_.Init, .slice a1 o_.Rows.length c1])), (34, I state), (35, Sl a2 l_ c2), (36, I (gi r112 y122)), (37, V (.pointer (some A136))), (38, V (.pointer (some A138))), (39, I ((gi l_ (gi r112 y122)).Kind)), (40, V (.tuple #[.int .i64 r144.1, .int .i64 r144.2.1, .bool r144.2.2]))]
    refine andH (Hold.of hS (bks := [5]) kr hD) ?_
    intro hH
    refine tkb T [8, 9, 10, 11, 12, 13, 14] [5] hS hH (tts 15) 0 [(1, Sl a2 l_ c2), (2, I state), (4, Pt 5 0), (11, Sl a118 y117 c119), (13, I (gi r112 y122)), (15, I r144.2.1), (16, B r144.2.2), (26, Sl a113 r112 c114), (27, I (lN r112)), (28, I y122)] fun a hS => ?_
    refine drawnDone kr ?_
    replace hS := hS.slb [(1, Sl a2 l_ c2), (2, I state), (4, Pt 5 0), (11, Sl a118 y117 c119), (13, I (gi r112 y122)), (15, I r144.2.1), (16, B r144.2.2), (26, Sl a113 r112 c114), (27, I (lN r112)), (28, I y122)]
    refine wcut (fun a w => ∃ (Z : Nat -> Nat) (X : Nat -> Nat) (y146 : List Api_Pick) (y151 : Bool) (a147 : Option Addr) (c148 : Nat), VC69_J3 r112 I1 μ1 y117 y122 r144 y146 y151 /\ St Try.f69.ntmps ⟨[(1, Sl a2 l_ c2), (2, I state), (4, Pt 5 0), (11, Sl a147 y146 c148), (13, I (gi r112 y122)), (15, I r144.2.1), (26, Sl a113 r112 c114), (27, I (lN r112)), (28, I y122), (61, B y151)], [(5, (24, (cO o_ a1 c1)))]⟩ Z a w X /\ Old w0 X0 w X /\ RS tApi_Oper w X a2 l_ c2 /\ OS tApi_Pick 109 w X 1009 a147 y146 c148 /\ RS tI w X a113 r112 c114 /\ RS tApi_Row w X a1 o_.Rows c1) ?_ ?_
    ·refine region ?_
     refine oPb T hS 2 [(1, Sl a2 l_ c2), (2, I state), (4, Pt 5 0), (11, Sl a118 y117 c119), (13, I (gi r112 y122)), (15, I r144.2.1), (26, Sl a113 r112 c114), (27, I (lN r112)), (28, I y122), (45, B r144.2.2)] fun a hS => ?_
     rcases bft r144.2.2 with hb | hb
     ·replace hS := hS.lit (t := 45) kr hb
      replace hm := hm.1 hb
      refine oPb T hS 2 [(1, Sl a2 l_ c2), (2, I state), (4, Pt 5 0), (11, Sl a118 y117 c119), (13, I (gi r112 y122)), (15, I r144.2.1), (26, Sl a113 r112 c114), (27, I (lN r112)), (28, I y122), (45, B true), (46, Sl a2 l_ c2), (47, I (gi r112 y122))] fun a hS => ?_
      obtain ⟨hq, hm⟩ := hm
      refine op1 (index (e := 61) (k := .i64) T hS kr kr kr kr h116 kr kr hq.1 hq.2 ?_)
      intro A162 a h163 hS
      refine op1 (fieldA (off := 3) (fsz := 1) (ft := 3) (TF := tI) (y := (gi l_ (gi r112 y122)).End) T hS kr kr kr h163 kr kr kr (fun cs h => Api_Oper_f3 h) ?_)
      intro A164 a h165 hS
      refine op1 (load1 T hS kr kr kr h165 rfl kr ?_)
      intro v166 a hv hS
      cases hv
      refine oPb T hS 2 [(1, Sl a2 l_ c2), (2, I state), (4, Pt 5 0), (11, Sl a118 y117 c119), (13, I (gi r112 y122)), (15, I r144.2.1), (26, Sl a113 r112 c114), (27, I (lN r112)), (28, I y122), (45, B true), (52, B (((gi l_ (gi r112 y122)).End) == (-1)))] fun a hS => ?_
      rcases bft (((gi l_ (gi r112 y122)).End) == (-1)) with hb | hb
      ·replace hS := hS.lit (t := 52) kr hb
       replace hm := hm.1 hb
       refine ePb T hS [(1, Sl a2 l_ c2), (2, I state), (4, Pt 5 0), (11, Sl a118 y117 c119), (13, I (gi r112 y122)), (15, I r144.2.1), (26, Sl a113 r112 c114), (27, I (lN r112)), (28, I y122), (61, B true)] fun a hS => ?_
       exact ⟨Z, _, y117, true, a118, c119, hm, hS.sl _, hO, h116, h120, h121, h123⟩
      replace hS := hS.lit (t := 52) kr hb
      replace hm := hm.2 hb
      refine oPb T hS 2 [(1, Sl a2 l_ c2), (2, I state), (4, Pt 5 0), (11, Sl a118 y117 c119), (13, I (gi r112 y122)), (15, I r144.2.1), (26, Sl a113 r112 c114), (27, I (lN r112)), (28, I y122), (45, B true), (52, B false), (53, Sl a2 l_ c2), (54, I (gi r112 y122))] fun a hS => ?_
      obtain ⟨hq, hm⟩ := hm
      refine op1 (index (e := 61) (k := .i64) T hS kr kr kr kr h116 kr kr hq.1 hq.2 ?_)
      intro A167 a h168 hS
      refine op1 (fieldA (off := 4) (fsz := 1) (ft := 3) (TF := tI) (y := (gi l_ (gi r112 y122)).Result) T hS kr kr kr h168 kr kr kr (fun cs h => Api_Oper_f4 h) ?_)
      intro A169 a h170 hS
      refine op1 (load1 T hS kr kr kr h170 rfl kr ?_)
      intro v171 a hv hS
      cases hv
      refine ePb T hS [(1, Sl a2 l_ c2), (2, I state), (4, Pt 5 0), (11, Sl a118 y117 c119), (13, I (gi r112 y122)), (15, I r144.2.1), (26, Sl a113 r112 c114), (27, I (lN r112)), (28, I y122), (61, B (((gi l_ (gi r112 y122)).Result) == r144.2.1))] fun a hS => ?_
      exact ⟨Z, _, y117, (((gi l_ (gi r112 y122)).Result) == r144.2.1), a118, c119, hm, hS.sl _, hO, h116, h120, h121, h123⟩
     replace hS := hS.lit (t := 45) kr hb
     replace hm := hm.2 hb
     refine ePb T hS [(1, Sl a2 l_ c2), (2, I state), (4, Pt 5 0), (11, Sl a118 y117 c119), (13, I (gi r112 y122)), (15, I r144.2.1), (26, Sl a113 r112 c114), (27, I (lN r112)), (28, I y122), (61, B false)] fun a hS => ?_
     exact ⟨Z, _, y117, false, a118, c119, hm, hS.sl _, hO, h116, h120, h121, h123⟩
    rintro a w173 ⟨Z, X172, y146, y151, a147, c148, hm, hS, hO, h145, h149, h150, h152⟩
    unfold VC69_J3 at hm
    refine wcond hS (b := y151) kr (fun hb => ?_) fun hb => ?_
    ·replace hm := hm.1 hb
     refine region ?_
     refine oPb T hS 4 [(1, Sl a2 l_ c2), (2, I state), (4, Pt 5 0), (11, Sl a147 y146 c148), (26, Sl a113 r112 c114), (27, I (lN r112)), (28, I y122), (62, Sl a147 y146 c148), (65, V (.agg #[.int .i64 (gi r112 y122), .int .i64 r144.2.1]))] fun a hS => ?_
     refine op1 (lit (E := 109) (col := 0) (T := tApi_Pick) (vals := [.agg #[.int .i64 (gi r112 y122), .int .i64 r144.2.1]]) (ys := [(⟨gi r112 y122, r144.2.1⟩ : Api_Pick)]) T hS kr kr kr kr (by exact ⟨rfl, trivial⟩) rfl kr kr kr kr ?_)
     intro b153 a w154 X155 hE h156 hN hS
     clear hN
     replace hO := hO.m2 hE
     replace h145 := h145.m1 hE
     replace h149 := h149.m2 hE
     replace h150 := h150.m1 hE
     replace h152 := h152.m1 hE
     replace h156 := h156.rs0
     obtain ⟨hq, hm⟩ := hm
     obtain ⟨news, hN⟩ := h156.src
     refine op1 (append (E := 109) (T := tApi_Pick) (col := 1009) (xs := y146) T hS kr kr kr kr h149 hN kr kr kr kr hq ?_)
     intro a160 c161 a w157 X158 hE h159 hS
     clear hq hN
     clear h149
     replace hO := hO.m2 hE
     replace h145 := h145.m1 hE
     replace h150 := h150.m1 hE
     replace h152 := h152.m1 hE
     replace h156 := h156.m1 hE
     refine ePb T hS [(1, Sl a2 l_ c2), (2, I state), (4, Pt 5 0), (11, Sl a160 (y146 ++ [(⟨gi r112 y122, r144.2.1⟩ : Api_Pick)]) c161), (26, Sl a113 r112 c114), (27, I (lN r112)), (28, I y122)] fun a hS => ?_
     exact ⟨Z, _, y146 ++ [(⟨gi r112 y122, r144.2.1⟩ : Api_Pick)], a160, c161, hm, hS.sl _, hO, h145, h159, h150, h152⟩
    replace hm := hm.2 hb
    refine wskip ?_
    exact ⟨Z, _, y146, a147, c148, hm, hS.sl _, hO, h145, h149, h150, h152⟩
   rintro a w175 ⟨Z, X174, y125, a126, c127, hm, hS, hO, h124, h128, h129, h130⟩
   unfold VC69_J2 at hm
   refine region (ePb T hS [(1, Sl a2 l_ c2), (2, I state), (4, Pt 5 0), (11, Sl a126 y125 c127), (26, Sl a113 r112 c114), (27, I (lN r112)), (28, I (wR (y122 + 1)))] fun a hS => ?_)
   exact ⟨⟨y125, wR (y122 + 1)⟩, ⟨Z, _, a126, c127, hm.1, hS.sl _, hO, h124, h128, h129, h130⟩, hm.2⟩
  replace hm := hm.2 hb
  refine wexit (by rfl) ?_
  exact ⟨Z, _, y117, a118, c119, hm, hS.sl _, hO, h120⟩
 rintro a w179 ⟨Z, X178, y105, a106, c107, hm, hS, hO, h108⟩
 unfold VC69_J1 at hm
 refine rPb T hS [(8, Sl a106 y105 c107)] fun a hS => ?_
 refine wret ?_
 exact fin T hS hO (zAb0 col1) rfl (r := [.slice a106 y105.length c107]) kr (fun X' hM hC => ⟨y105, hm, a106, c107, rfl, (OS.out (f := (zAb0 col1)) h108 hM hC kr)⟩)
theorem C69 (k38 : S38) (k67 : S67) (k79 : S79) (v : ∀ (o_ : Api_Object) (l_ : List Api_Oper) (state : Int) (done : List Bool), preNx o_ l_ state done -> VC69 o_ l_ state done (fun r => r = search_Next o_ l_ state done)) : S69 := by
 intro w X o_ l_ state done a1 c1 a2 c2 a3 c3 col1  hp h1 h2 h3
 refine (W69 k38 k67 k79 w X o_ l_ state done a1 c1 a2 c2 a3 c3 col1  _ (v o_ l_ state done hp) h1 h2 h3).mono ?_
 rintro _ _ _ _ ⟨r, rfl, h⟩
 exact h
theorem W52 (k38 : S38) (k63 : S63) (w0) (X0) (o_ : Api_Object) (l_ : List Api_Oper) (most : Int) (a1) (c1) (a2) (c2) (Q : Int -> Prop) (hm : VC52 o_ l_ most Q) (h1 : RS tApi_Row w0 X0 a1 o_.Rows c1) (h2 : RS tApi_Oper w0 X0 a2 l_ c2) :
  Ret Try.prog 52 #[.agg #[.int .i64 o_.States, .int .i64 o_.Kinds, .int .i64 o_.Init, .slice a1 o_.Rows.length c1], .slice a2 l_.length c2, .int .i64 most] xnone w0 X0 (fun w X' v => ∃ r, Q r /\ v = .int .i64 r) := by
 unfold VC52 at hm
 replace hm := hm (h1.sm kr)
 replace hm := hm (h2.sm kr)
 refine enter Try.func52 rfl (vals := [.agg #[.int .i64 o_.States, .int .i64 o_.Kinds, .int .i64 o_.Init, .slice a1 o_.Rows.length c1], .slice a2 l_.length c2, .int .i64 most]) kr ?_
 intro Z a hS hO hM
 replace h1 := h1.m0 hM
 replace h2 := h2.m0 hM
 refine rM T hS ⟨[(1, Sl a2 l_ c2), (2, I most), (3, Pt 4 0)], [(4, (24, (cO o_ a1 c1)))]⟩ fun Z a w109 X110 hS hE hr => ?_
 replace hO := hO.m2 hE
 replace h1 := h1.m1 hE
 replace h2 := h2.m1 hE
 clear hE hr
 refine regO ?_
 refine oP T hS 1 ⟨[(1, Sl a2 l_ c2), (2, I most), (12, V (.agg #[.int .i64 o_.States, .int .i64 o_.Kinds, .int .i64 o_.Init, .slice a1 o_.Rows.length c1]))], []⟩ fun a hS => ?_
 obtain ⟨hq, hm⟩ := hm
 refine op1 (call hS kr kr hb38 kr (fun _ _ => rfl) (k38 _ _ o_ a1 c1 hq h1) ?_)
 intro v101 a w102 X103 hE hp hS
 replace hO := hO.m2 hE
 replace h1 := h1.m1 hE
 replace h2 := h2.m1 hE
 obtain ⟨r104, hr⟩ : ∃ r, object_Check o_ = r := ⟨_, rfl⟩
 replace hm := hm r104 hr
 rw [hr] at hp
 clear hr
 subst hp
 refine ePb T hS [(1, Sl a2 l_ c2), (2, I most), (8, I r104.2)] fun a hS => ?_
 refine regO ?_
 refine oPb T hS 1 [(1, Sl a2 l_ c2), (2, I most), (8, I r104.2), (17, Sl a2 l_ c2)] fun a hS => ?_
 refine op1 (call hS kr kr hb63 kr (fun _ _ => rfl) (k63 _ _ l_ a2 c2 h2) ?_)
 intro v105 a w106 X107 hE hp hS
 replace hO := hO.m2 hE
 replace h2 := h2.m1 hE
 obtain ⟨r108, hr⟩ : ∃ r, oper_Check l_ = r := ⟨_, rfl⟩
 replace hm := hm r108 hr
 rw [hr] at hp
 clear hr
 subst hp
 refine ePb T hS [(1, Sl a2 l_ c2), (2, I most), (8, I r104.2), (10, I r108.2)] fun a hS => ?_
 refine wseq ?_
 refine wblock ?_
 refine rPb T hS [(1, Sl a2 l_ c2), (2, I most), (21, B ((r104.2 != 0) || (r108.2 != 0)))] (sp := [24]) fun a hS => ?_
 refine wcond hS (b := ((r104.2 != 0) || (r108.2 != 0))) kr (fun hb => ?_) fun hb => ?_
 ·replace hm := hm.1 hb
  refine rPb T hS [(6, I 2)] fun a hS => ?_
  refine wret ?_
  exact fin T hS hO (fun c => c) rfl (r := [.int .i64 2]) kr (fun X' hM hC => ⟨2, hm, rfl⟩)
 replace hm := hm.2 hb
 refine rPb T hS [(28, B (decide ((lN l_) > most)))] fun a hS => ?_
 refine wcond hS (b := decide ((lN l_) > most)) kr (fun hb => ?_) fun hb => ?_
 ·replace hm := hm.1 hb
  refine rPb T hS [(6, I 3)] fun a hS => ?_
  refine wret ?_
  exact fin T hS hO (fun c => c) rfl (r := [.int .i64 3]) kr (fun X' hM hC => ⟨3, hm, rfl⟩)
 replace hm := hm.2 hb
 refine wskip ?_
 refine rPb T hS [(6, I 0)] fun a hS => ?_
 refine wret ?_
 exact fin T hS hO (fun c => c) rfl (r := [.int .i64 0]) kr (fun X' hM hC => ⟨0, hm, rfl⟩)
theorem C52 (k38 : S38) (k63 : S63) (v : ∀ (o_ : Api_Object) (l_ : List Api_Oper) (most : Int), preCk o_ l_ most -> VC52 o_ l_ most (fun r => r = search_check o_ l_ most)) : S52 := by
 intro w X o_ l_ most a1 c1 a2 c2   hp h1 h2
 refine (W52 k38 k63 w X o_ l_ most a1 c1 a2 c2   _ (v o_ l_ most hp) h1 h2).mono ?_
 rintro _ _ _ _ ⟨r, rfl, h⟩
 exact h
theorem W68 (w0) (X0) (s_ : List Api_Pick) (a1) (c1) (col1) (Q : (List Api_Pick) -> Prop) (hm : VC68 s_ Q) (h1 : RS tApi_Pick w0 X0 a1 s_ c1) :
  Ret Try.prog 68 #[.slice a1 s_.length c1] xnone w0 X0 (fun w X' v => ∃ r, Q r /\ ∃ ra1 rc1, v = .slice ra1 r.length rc1 /\ OS tApi_Pick 109 w X' col1 ra1 r rc1) := by
 unfold VC68 at hm
 replace hm := hm (h1.sm kr)
 refine enter Try.func68 rfl (vals := [.slice a1 s_.length c1]) kr ?_
 intro Z a hS hO hM
 replace h1 := h1.m0 hM
 refine rPb T hS [(0, Sl a1 s_ c1)] fun a hS => ?_
 refine wseq ?_
 refine regO ?_
 refine oPb T hS 1 [(0, Sl a1 s_ c1), (3, Sl a1 s_ c1)] fun a hS => ?_
 obtain ⟨b101, hb102⟩ : ∃ q : Bool, a1.isNone = q := ⟨_, rfl⟩
 replace hm := hm b101 (h1.nilE hb102)
 refine op1 (eqNil (e := 109) (m := s_.length) (c := c1) hS kr kr kr kr Try.underlying84 hb102 ?_)
 intro a hS
 clear hb102
 refine doneK ?_
 refine wcond hS (b := b101) kr (fun hb => ?_) fun hb => ?_
 ·replace hm := hm.1 hb
  refine rPb T hS [(2, V (.slice none 0 0))] fun a hS => ?_
  refine wret ?_
  exact fin T hS hO (fun c => c) rfl (r := [.slice none 0 0]) kr (fun X' hM hC => ⟨[], hm, none, 0, rfl, OS.nil _ _ _ _ _⟩)
 replace hm := hm.2 hb
 refine wskip ?_
 refine regO ?_
 refine op1 (lit (E := 109) (col := 1003) (T := tApi_Pick) (vals := []) (ys := ([] : List Api_Pick)) T hS kr kr kr kr trivial rfl kr kr kr kr ?_)
 intro b103 a w104 X105 hE h106 hN hS
 clear hN
 replace hO := hO.m2 hE
 replace h1 := h1.m1 hE
 refine oPb T hS 1 [(5, Sl (some ⟨b103, 0, none⟩) ([] : List Api_Pick) 0), (6, Sl a1 s_ c1)] fun a hS => ?_
 obtain ⟨hq, hm⟩ := hm
 obtain ⟨news, hN⟩ := h1.src
 refine op1 (append (E := 109) (T := tApi_Pick) (col := 1003) (xs := ([] : List Api_Pick)) T hS kr kr kr kr h106 hN kr kr kr kr hq ?_)
 intro a110 c111 a w107 X108 hE h109 hS
 clear hq hN
 clear h106
 replace hO := hO.m2 hE
 replace h1 := h1.m1 hE
 refine ePb T hS [(2, Sl a110 (([] : List Api_Pick) ++ s_) c111)] fun a hS => ?_
 refine wret ?_
 exact fin T hS hO (zAb1 col1) rfl (r := [.slice a110 (([] : List Api_Pick) ++ s_).length c111]) kr (fun X' hM hC => ⟨(([] : List Api_Pick) ++ s_), hm, a110, c111, rfl, (OS.out (f := (zAb1 col1)) h109 hM hC kr)⟩)
theorem C68 (v : ∀ (s_ : List Api_Pick), preCl s_ -> VC68 s_ (fun r => r = slices_Clone_api_Pick_api_Pick s_)) : S68 := by
 intro w X s_ a1 c1 col1  hp h1
 refine (W68 w X s_ a1 c1 col1  _ (v s_ hp) h1).mono ?_
 rintro _ _ _ _ ⟨r, rfl, h⟩
 exact h
end Go.Proofs.Ytojdelnnjhbgbaa
