/- Walks of the functions: each returns what its condition asks. -/
import Derived.Test.YteahldlmkheleaaLWalksS
set_option linter.all false
namespace Go.Proofs.Yteahldlmkheleaa
open Go Go.Sv
set_option maxHeartbeats 1000000
theorem W45 (k57 : S57) (w0) (X0) (l_ : List aa) (picks : List ah) (a1) (c1) (a2) (c2) (Q : Int -> Prop) (hm : VC45 l_ picks Q) (h1 : RS aq w0 X0 a1 l_ c1) (h2 : RS au w0 X0 a2 picks c2) :
  Ret Try.prog 45 #[.slice a1 l_.length c1, .slice a2 picks.length c2] aF w0 X0 (fun w X' v => ∃ r, Q r /\ v = .int .i64 r) := by
 unfold VC45 at hm
 replace hm := hm (h1.sm kr)
 replace hm := hm (h2.sm kr)
 refine enter Try.func45 rfl (vals := [.slice a1 l_.length c1, .slice a2 picks.length c2]) kr ?_
 intro Z a hS hO hM
 replace h1 := h1.m0 hM
 replace h2 := h2.m0 hM
 refine rPb T hS [(0, Sl a1 l_ c1), (1, Sl a2 picks c2)] fun a hS => ?_
 refine pQ (by rfl) ?_
 refine bb ?_
 refine op1 (jo kI tI false 1011 hS kr kr ?_)
 intro r101 a w102 X103 hE h104 hS
 replace hO := hO.m2 hE
 replace h1 := h1.m1 hE
 replace h2 := h2.m1 hE
 refine ePb T hS [(0, Sl a1 l_ c1), (1, Sl a2 picks c2), (5, V (.map (some r101)))] fun a hS => ?_
 refine ba ?_
 refine pS ?_
 refine bU (fun a w => ∃ Z X, VC45_J1 Q /\ St Try.f45.ntmps ⟨[], []⟩ Z a w X /\ Old w0 X0 w X) ?_ ?_
 ·refine rPb T hS [(0, Sl a1 l_ c1), (5, V (.map (some r101))), (11, Sl a2 picks c2), (12, I (lN picks)), (13, I 0)] fun a hS => ?_
  refine aO ?_
  obtain ⟨I1, μ1, hm0, hm⟩ := hm
  refine b8 (σ := (List (Int × Int)) × Int) (fun s a w => ∃ Z X, I1 s.1 s.2 /\ St Try.f45.ntmps ⟨[(0, Sl a1 l_ c1), (5, V (.map (some r101))), (11, Sl a2 picks c2), (12, I (lN picks)), (13, I s.2)], []⟩ Z a w X /\ Old w0 X0 w X /\ RS aq w X a1 l_ c1 /\ OM kI tI false w X 1011 r101 s.1 /\ RS au w X a2 picks c2) (fun s => μ1 s.1 s.2) (⟨([] : List (Int × Int)), 0⟩) ?_ ?_
  ·exact ⟨Z, _, hm0, hS.sl _, hO, h1, h104, h2⟩
  rintro ⟨y106, y109⟩ a w159 ⟨Z, X158, hI, hS, hO, h105, h107, h108⟩
  replace hm := hm y106 y109 hI
  clear hI hm0
  refine rPb T hS [(0, Sl a1 l_ c1), (5, V (.map (some r101))), (11, Sl a2 picks c2), (12, I (lN picks)), (13, I y109), (14, B (decide (y109 < (lN picks))))] fun a hS => ?_
  refine ba ?_
  refine aG hS (b := decide (y109 < (lN picks))) kr (fun hb => ?_) fun hb => ?_
  ·replace hm := hm.1 hb
   refine aJ ?_
   refine bU (fun a w => ∃ (Z : Nat -> Nat) (X : Nat -> Nat) (y111 : List (Int × Int)), VC45_J2 I1 μ1 y106 y109 y111 /\ St Try.f45.ntmps ⟨[(0, Sl a1 l_ c1), (5, V (.map (some r101))), (11, Sl a2 picks c2), (12, I (lN picks)), (13, I y109)], []⟩ Z a w X /\ Old w0 X0 w X /\ RS aq w X a1 l_ c1 /\ OM kI tI false w X 1011 r101 y111 /\ RS au w X a2 picks c2) ?_ ?_
   ·refine aO ?_
    refine bb ?_
    refine oPb T hS 1 [(0, Sl a1 l_ c1), (5, V (.map (some r101))), (11, Sl a2 picks c2), (12, I (lN picks)), (13, I y109), (15, I y109)] fun a hS => ?_
    obtain ⟨hq, hm⟩ := hm
    refine op1 (index (e := 100) (k := .i64) T hS kr kr kr kr h108 kr kr hq.1 hq.2 ?_)
    intro A114 a h115 hS
    refine op1 (di T hS kr kr kr h115 kr kr ?_)
    intro v116 a hv hS
    subst hv
    refine eM T hS ⟨[(0, Sl a1 l_ c1), (5, V (.map (some r101))), (6, I y109), (7, Pt 8 0), (11, Sl a2 picks c2), (12, I (lN picks)), (13, I y109)], [(8, (100, (cK (gi picks y109))))]⟩ fun Z a w154 X155 hS hE hr => ?_
    replace hO := hO.m2 hE
    replace h105 := h105.m1 hE
    replace h107 := h107.m2 hE
    replace h108 := h108.m1 hE
    clear hE hr
    refine ba ?_
    refine rPb T hS [(0, Sl a1 l_ c1), (5, V (.map (some r101))), (6, I y109), (7, Pt 8 0), (11, Sl a2 picks c2), (12, I (lN picks)), (13, I y109), (27, B ((decide (((gi picks y109).Oper) < 0)) || (decide (((gi picks y109).Oper) ≥ (lN l_)))))] (sp := [21]) fun a hS => ?_
    refine aG hS (b := ((decide (((gi picks y109).Oper) < 0)) || (decide (((gi picks y109).Oper) ≥ (lN l_))))) kr (fun hb => ?_) fun hb => ?_
    ·replace hm := hm.1 hb
     refine b0 (by rfl) ?_
     exact ⟨Z, _, y106, hm, hS.sl _, hO, h105, h107, h108⟩
    replace hm := hm.2 hb
    refine aJ ?_
    refine bU (fun a w => ∃ Z X, VC45_J3 picks I1 μ1 y106 y109 /\ St Try.f45.ntmps ⟨[(0, Sl a1 l_ c1), (5, V (.map (some r101))), (7, Pt 8 0), (11, Sl a2 picks c2), (12, I (lN picks)), (13, I y109)], [(8, (100, (cK (gi picks y109))))]⟩ Z a w X /\ Old w0 X0 w X /\ RS aq w X a1 l_ c1 /\ OM kI tI false w X 1011 r101 y106 /\ RS au w X a2 picks c2) ?_ ?_
    ·refine rPb T hS [(0, Sl a1 l_ c1), (5, V (.map (some r101))), (6, I y109), (7, Pt 8 0), (11, Sl a2 picks c2), (12, I (lN picks)), (13, I y109), (28, Sl a1 l_ c1), (29, I (lN l_)), (30, I 0)] fun a hS => ?_
     refine aO ?_
     obtain ⟨I2, μ2, hm0, hm⟩ := hm
     refine b8 (σ := Int) (fun s a w => ∃ Z X, I2 s /\ St Try.f45.ntmps ⟨[(0, Sl a1 l_ c1), (5, V (.map (some r101))), (6, I y109), (7, Pt 8 0), (11, Sl a2 picks c2), (12, I (lN picks)), (13, I y109), (28, Sl a1 l_ c1), (29, I (lN l_)), (30, I s)], [(8, (100, (cK (gi picks y109))))]⟩ Z a w X /\ Old w0 X0 w X /\ RS aq w X a1 l_ c1 /\ OM kI tI false w X 1011 r101 y106 /\ RS au w X a2 picks c2 /\ RS aq w X a1 l_ c1) (fun s => μ2 s) (0) ?_ ?_
     ·exact ⟨Z, _, hm0, hS.sl _, hO, h105, h107, h108, h105⟩
     rintro y127 a w151 ⟨Z, X150, hI, hS, hO, h123, h124, h125, h126⟩
     replace hm := hm y127 hI
     clear hI hm0
     refine rPb T hS [(0, Sl a1 l_ c1), (5, V (.map (some r101))), (6, I y109), (7, Pt 8 0), (11, Sl a2 picks c2), (12, I (lN picks)), (13, I y109), (28, Sl a1 l_ c1), (29, I (lN l_)), (30, I y127), (31, B (decide (y127 < (lN l_))))] fun a hS => ?_
     refine ba ?_
     refine aG hS (b := decide (y127 < (lN l_))) kr (fun hb => ?_) fun hb => ?_
     ·replace hm := hm.1 hb
      refine aJ (ba ?_)
      refine aO ?_
      refine bb ?_
      refine oPb T hS 1 [(0, Sl a1 l_ c1), (5, V (.map (some r101))), (6, I y109), (7, Pt 8 0), (11, Sl a2 picks c2), (12, I (lN picks)), (13, I y109), (28, Sl a1 l_ c1), (29, I (lN l_)), (30, I y127), (32, I y127)] fun a hS => ?_
      obtain ⟨hq, hm⟩ := hm
      refine op1 (index (e := 80) (k := .i64) T hS kr kr kr kr h126 kr kr hq.1 hq.2 ?_)
      intro A128 a h129 hS
      refine op1 (di T hS kr kr kr h129 kr kr ?_)
      intro v130 a hv hS
      subst hv
      refine eM T hS ⟨[(0, Sl a1 l_ c1), (5, V (.map (some r101))), (6, I y109), (7, Pt 8 0), (8, I y127), (9, Pt 10 0), (11, Sl a2 picks c2), (12, I (lN picks)), (13, I y109), (28, Sl a1 l_ c1), (29, I (lN l_)), (30, I y127)], [(8, (100, (cK (gi picks y109)))), (10, (80, (cP (gi l_ y127))))]⟩ fun Z a w148 X149 hS hE hr => ?_
      replace hO := hO.m2 hE
      replace h123 := h123.m1 hE
      replace h124 := h124.m2 hE
      replace h125 := h125.m1 hE
      replace h126 := h126.m1 hE
      clear hE hr
      refine bU (fun a w => ∃ (Z : Nat -> Nat) (X : Nat -> Nat) (y135 : Bool), VC45_J4 Q y109 I2 μ2 y127 y135 /\ St Try.f45.ntmps ⟨[(0, Sl a1 l_ c1), (5, V (.map (some r101))), (6, I y109), (7, Pt 8 0), (11, Sl a2 picks c2), (12, I (lN picks)), (13, I y109), (28, Sl a1 l_ c1), (29, I (lN l_)), (30, I y127), (47, B y135)], [(8, (100, (cK (gi picks y109))))]⟩ Z a w X /\ Old w0 X0 w X /\ RS aq w X a1 l_ c1 /\ OM kI tI false w X 1011 r101 y106 /\ RS au w X a2 picks c2 /\ RS aq w X a1 l_ c1) ?_ ?_
      ·refine fj [8, 10] mixed hS ?_
       intro w136 X137 hS hE hD hH
       replace hO := hO.m2 hE
       replace h123 := h123.m1 hE
       replace h124 := h124.m2 hE
       replace h125 := h125.m1 hE
       replace h126 := h126.m1 hE
       refine tkb T [0, 1, 2, 3] [8, 10] hS hH #[true, true, true, true, false, false, false, false, false, false, false, false, false] 9 [(0, Sl a1 l_ c1), (5, V (.map (some r101))), (6, I y109), (7, Pt 8 0), (8, I y127), (11, Sl a2 picks c2), (12, I (lN picks)), (13, I y109), (28, Sl a1 l_ c1), (29, I (lN l_)), (30, I y127), (35, V (.agg #[.int .i64 ((gi l_ y127).ab), .int .i64 ((gi l_ y127).Kind), .int .i64 ((gi l_ y127).aA), .int .i64 ((gi l_ y127).End), .int .i64 ((gi l_ y127).Result)])), (36, Sl a1 l_ c1), (38, I ((gi picks y109).Oper))] fun a hS => ?_
       obtain ⟨hq, hm⟩ := hm
       refine cD (e := 80) (k := .i64) T 4 hS kr kr kr (by rfl) kr hH kr kr h123 kr kr hq.1 hq.2 ?_
       intro A138 a h139 hS
       have h139b := h139.here
       refine fB T 5 hS kr kr kr (by rfl) kr hH kr h139 h139b kr kr ?_
       intro v140 a hv hS
       subst hv
       refine only 6 kr (by rfl) (call hS kr kr hb57 kr (fun _ _ => rfl) (k57 _ _ (gi l_ y127) (gi l_ ((gi picks y109).Oper))) ?_)
       intro v141 a w142 X143 hE hp hS
       replace hO := hO.m2 hE
       replace hD := hD.ev hE rfl
       replace h123 := h123.m1 hE
       replace h124 := h124.m2 hE
       replace h125 := h125.m1 hE
       replace h126 := h126.m1 hE
       replace h139 := h139.m1 hE
       obtain ⟨r144, hr⟩ : ∃ r, bF (gi l_ y127) (gi l_ ((gi picks y109).Oper)) = r := ⟨_, rfl⟩
       replace hm := hm r144 hr
       rw [hr] at hp
       clear hr
       subst hp
       replace hS := hS.slb [(0, Sl a1 l_ c1), (5, V (.map (some r101))), (6, I y109), (7, Pt 8 0), (8, I y127), (11, Sl a2 picks c2), (12, I (lN picks)), (13, I y109), (28, Sl a1 l_ c1), (29, I (lN l_)), (30, I y127), (35, V (.agg #[.int .i64 ((gi l_ y127).ab), .int .i64 ((gi l_ y127).Kind), .int .i64 ((gi l_ y127).aA), .int .i64 ((gi l_ y127).End), .int .i64 ((gi l_ y127).Result)])), (36, Sl a1 l_ c1), (38, I ((gi picks y109).Oper)), (39, V (.pointer (some A138))), (40, V (.agg #[.int .i64 ((gi l_ ((gi picks y109).Oper)).ab), .int .i64 ((gi l_ ((gi picks y109).Oper)).Kind), .int .i64 ((gi l_ ((gi picks y109).Oper)).aA), .int .i64 ((gi l_ ((gi picks y109).Oper)).End), .int .i64 ((gi l_ ((gi picks y109).Oper)).Result)])), (41, B r144)]
       refine bX (bl.of hS (bks := [8, 10]) kr hD) ?_
       intro hH
       refine tkb T [7] [8, 10] hS hH #[true, true, true, true, true, true, true, true, false, false, false, false, false] 5 [(0, Sl a1 l_ c1), (5, V (.map (some r101))), (6, I y109), (7, Pt 8 0), (8, I y127), (11, Sl a2 picks c2), (12, I (lN picks)), (13, I y109), (28, Sl a1 l_ c1), (29, I (lN l_)), (30, I y127), (42, B r144)] fun a hS => ?_
       rcases bft r144 with hb | hb
       ·replace hS := hS.lit (t := 42) kr hb
        replace hm := hm.1 hb
        refine tkb T [8, 9] [8, 10] hS hH #[true, true, true, true, true, true, true, true, true, true, false, false, false] 3 [(0, Sl a1 l_ c1), (5, V (.map (some r101))), (6, I y109), (7, Pt 8 0), (11, Sl a2 picks c2), (12, I (lN picks)), (13, I y109), (28, Sl a1 l_ c1), (29, I (lN l_)), (30, I y127), (42, B true), (43, V (.map (some r101))), (44, I y127)] fun a hS => ?_
        refine only 10 kr (by rfl) (fM kI tI false (zv := .int .i64 0) (z := 0) y127 hS kr kr kr kr Try.underlying71 Try.underlying3 kr rfl h124 ?_)
        intro v145 a hv hS
        replace hv : tI.R _ _ [v145] _ := hv
        cases hv
        refine bX (bl.of hS (bks := [8, 10]) kr hD) ?_
        intro hH
        refine tkb T [11, 12] [8, 10] hS hH (tts 13) 0 [(0, Sl a1 l_ c1), (5, V (.map (some r101))), (6, I y109), (7, Pt 8 0), (11, Sl a2 picks c2), (12, I (lN picks)), (13, I y109), (28, Sl a1 l_ c1), (29, I (lN l_)), (30, I y127), (47, B (((ay y106 y127).getD 0) == 0))] fun a hS => ?_
        refine aM kr ?_
        replace hS := hS.sl ⟨[(0, Sl a1 l_ c1), (5, V (.map (some r101))), (6, I y109), (7, Pt 8 0), (11, Sl a2 picks c2), (12, I (lN picks)), (13, I y109), (28, Sl a1 l_ c1), (29, I (lN l_)), (30, I y127), (47, B (((ay y106 y127).getD 0) == 0))], [(8, (100, (cK (gi picks y109))))]⟩
        exact ⟨Z, _, (((ay y106 y127).getD 0) == 0), hm, hS.sl _, hO, h123, h124, h125, h126⟩
       replace hS := hS.lit (t := 42) kr hb
       replace hm := hm.2 hb
       refine tkb T [8, 9, 10, 11, 12] [8, 10] hS hH (tts 13) 0 [(0, Sl a1 l_ c1), (5, V (.map (some r101))), (6, I y109), (7, Pt 8 0), (11, Sl a2 picks c2), (12, I (lN picks)), (13, I y109), (28, Sl a1 l_ c1), (29, I (lN l_)), (30, I y127), (47, B false)] fun a hS => ?_
       refine aM kr ?_
       replace hS := hS.sl ⟨[(0, Sl a1 l_ c1), (5, V (.map (some r101))), (6, I y109), (7, Pt 8 0), (11, Sl a2 picks c2), (12, I (lN picks)), (13, I y109), (28, Sl a1 l_ c1), (29, I (lN l_)), (30, I y127), (47, B false)], [(8, (100, (cK (gi picks y109))))]⟩
       exact ⟨Z, _, false, hm, hS.sl _, hO, h123, h124, h125, h126⟩
      rintro a w147 ⟨Z, X146, y135, hm, hS, hO, h131, h132, h133, h134⟩
      unfold VC45_J4 at hm
      refine aG hS (b := y135) kr (fun hb => ?_) fun hb => ?_
      ·replace hm := hm.1 hb
       refine rP T hS ⟨[(4, I y109)], []⟩ fun a hS => ?_
       refine aU ?_
       exact fin T hS hO (fun c => c) rfl (r := [.int .i64 y109]) kr (fun X' hM hC => ⟨y109, hm, rfl⟩)
      replace hm := hm.2 hb
      refine aJ ?_
      refine region (ePb T hS [(0, Sl a1 l_ c1), (5, V (.map (some r101))), (6, I y109), (7, Pt 8 0), (11, Sl a2 picks c2), (12, I (lN picks)), (13, I y109), (28, Sl a1 l_ c1), (29, I (lN l_)), (30, I (wR (y127 + 1)))] fun a hS => ?_)
      exact ⟨wR (y127 + 1), ⟨Z, _, hm.1, hS.sl _, hO, h131, h132, h133, h134⟩, hm.2⟩
     replace hm := hm.2 hb
     refine b0 (by rfl) ?_
     exact ⟨Z, _, hm, hS.sl _, hO, h123, h124, h125⟩
    rintro a w153 ⟨Z, X152, hm, hS, hO, h117, h118, h119⟩
    unfold VC45_J3 at hm
    refine region ?_
    refine oP T hS 3 ⟨[(0, Sl a1 l_ c1), (5, V (.map (some r101))), (11, Sl a2 picks c2), (12, I (lN picks)), (13, I y109), (50, V (.map (some r101))), (52, I ((gi picks y109).Oper))], []⟩ fun a hS => ?_
    refine op1 (fM kI tI false (zv := .int .i64 0) (z := 0) ((gi picks y109).Oper) hS kr kr kr kr Try.underlying71 Try.underlying3 kr rfl h118 ?_)
    intro v120 a hv hS
    replace hv : tI.R _ _ [v120] _ := hv
    cases hv
    refine oPb T hS 1 [(0, Sl a1 l_ c1), (5, V (.map (some r101))), (11, Sl a2 picks c2), (12, I (lN picks)), (13, I y109), (50, V (.map (some r101))), (52, I ((gi picks y109).Oper)), (54, I (wR (((ay y106 ((gi picks y109).Oper)).getD 0) + 1)))] fun a hS => ?_
    refine op1 (lA kI tI false (v := I (wR (((ay y106 ((gi picks y109).Oper)).getD 0) + 1))) (u := wR (((ay y106 ((gi picks y109).Oper)).getD 0) + 1)) ((gi picks y109).Oper) hS kr kr kr kr Try.underlying71 Try.underlying3 kr h118 rfl ?_)
    intro a w121 hE h122 hS
    clear h118
    replace hO := hO.m2 hE
    replace h117 := h117.m1 hE
    replace h119 := h119.m1 hE
    refine eO ?_
    exact ⟨Z, _, cg y106 ((gi picks y109).Oper) (wR (((ay y106 ((gi picks y109).Oper)).getD 0) + 1)), hm, hS.sl _, hO, h117, h122, h119⟩
   rintro a w157 ⟨Z, X156, y111, hm, hS, hO, h110, h112, h113⟩
   unfold VC45_J2 at hm
   refine region (ePb T hS [(0, Sl a1 l_ c1), (5, V (.map (some r101))), (11, Sl a2 picks c2), (12, I (lN picks)), (13, I (wR (y109 + 1)))] fun a hS => ?_)
   exact ⟨⟨y111, wR (y109 + 1)⟩, ⟨Z, _, hm.1, hS.sl _, hO, h110, h112, h113⟩, hm.2⟩
  replace hm := hm.2 hb
  refine b0 (by rfl) ?_
  exact ⟨Z, _, hm, hS.sl _, hO⟩
 rintro a w161 ⟨Z, X160, hm, hS, hO⟩
 unfold VC45_J1 at hm
 refine rPb T hS [(4, I (-1))] fun a hS => ?_
 refine aU ?_
 exact fin T hS hO (fun c => c) rfl (r := [.int .i64 (-1)]) kr (fun X' hM hC => ⟨(-1), hm, rfl⟩)
theorem C45 (k57 : S57) (v : ∀ (l_ : List aa) (picks : List ah), VC45 l_ picks (fun r => r = bR l_ picks)) : S45 := by
 intro w X l_ picks a1 c1 a2 c2   h1 h2
 refine (W45 k57 w X l_ picks a1 c1 a2 c2   _ (v l_ picks) h1 h2).mono ?_
 rintro _ _ _ _ ⟨r, rfl, h⟩
 exact h
theorem W96 (w0) (X0) (o_ : aa) (Q : Bool -> Prop) (hm : VC96 o_ Q) :
  Ret Try.prog 96 #[.agg #[.int .i64 o_.ab, .int .i64 o_.Kind, .int .i64 o_.aA, .int .i64 o_.End, .int .i64 o_.Result]] aF w0 X0 (fun w X' v => ∃ r, Q r /\ v = .bool r) := by
 unfold VC96 at hm
 refine enter Try.func96 rfl (vals := [.agg #[.int .i64 o_.ab, .int .i64 o_.Kind, .int .i64 o_.aA, .int .i64 o_.End, .int .i64 o_.Result]]) kr ?_
 intro Z a hS hO hM
 refine rM T hS ⟨[(1, Pt 2 0)], [(2, (80, (cP o_)))]⟩ fun Z a w101 X102 hS hE hr => ?_
 replace hO := hO.m2 hE
 clear hE hr
 refine ba ?_
 refine rPb T hS [(1, Pt 2 0), (5, B (o_.End == (-1)))] fun a hS => ?_
 refine aG hS (b := (o_.End == (-1))) kr (fun hb => ?_) fun hb => ?_
 ·replace hm := hm.1 hb
  refine rP T hS ⟨[(2, B (o_.Result == (-1)))], []⟩ fun a hS => ?_
  refine aU ?_
  exact fin T hS hO (fun c => c) rfl (r := [.bool (o_.Result == (-1))]) kr (fun X' hM hC => ⟨(o_.Result == (-1)), hm, rfl⟩)
 replace hm := hm.2 hb
 refine aJ ?_
 refine rP T hS ⟨[(2, B ((((decide (o_.End > o_.aA)) && (decide (o_.End ≤ 9999))) && (decide (o_.Result ≥ 0))) && (decide (o_.Result ≤ 1000000))))], []⟩ (sp := [14, 19, 24]) fun a hS => ?_
 refine aU ?_
 exact fin T hS hO (fun c => c) rfl (r := [.bool ((((decide (o_.End > o_.aA)) && (decide (o_.End ≤ 9999))) && (decide (o_.Result ≥ 0))) && (decide (o_.Result ≤ 1000000)))]) kr (fun X' hM hC => ⟨((((decide (o_.End > o_.aA)) && (decide (o_.End ≤ 9999))) && (decide (o_.Result ≥ 0))) && (decide (o_.Result ≤ 1000000))), hm, rfl⟩)
theorem C96 (v : ∀ (o_ : aa), VC96 o_ (fun r => r = cW o_)) : S96 := by
 intro w X o_    
 refine (W96 w X o_    _ (v o_)).mono ?_
 rintro _ _ _ _ ⟨r, rfl, h⟩
 exact h
theorem W91 (k96 : S96) (w0) (X0) (o_ : aa) (Q : Int -> Prop) (hm : VC91 o_ Q) :
  Ret Try.prog 91 #[.agg #[.int .i64 o_.ab, .int .i64 o_.Kind, .int .i64 o_.aA, .int .i64 o_.End, .int .i64 o_.Result]] aF w0 X0 (fun w X' v => ∃ r, Q r /\ v = .int .i64 r) := by
 unfold VC91 at hm
 refine enter Try.func91 rfl (vals := [.agg #[.int .i64 o_.ab, .int .i64 o_.Kind, .int .i64 o_.aA, .int .i64 o_.End, .int .i64 o_.Result]]) kr ?_
 intro Z a hS hO hM
 refine rM T hS ⟨[(1, Pt 2 0)], [(2, (80, (cP o_)))]⟩ fun Z a w105 X106 hS hE hr => ?_
 replace hO := hO.m2 hE
 clear hE hr
 refine ba ?_
 refine aO ?_
 refine rPb T hS [(1, Pt 2 0), (3, B ((((decide (o_.ab < 1)) || (decide (o_.ab > 1000))) || (decide (o_.aA < 0))) || (decide (o_.aA > 9999))))] (sp := [7, 12, 17]) fun a hS => ?_
 refine aG hS (b := ((((decide (o_.ab < 1)) || (decide (o_.ab > 1000))) || (decide (o_.aA < 0))) || (decide (o_.aA > 9999)))) kr (fun hb => ?_) fun hb => ?_
 ·replace hm := hm.1 hb
  refine rP T hS ⟨[(2, I 2)], []⟩ fun a hS => ?_
  refine aU ?_
  exact fin T hS hO (fun c => c) rfl (r := [.int .i64 2]) kr (fun X' hM hC => ⟨2, hm, rfl⟩)
 replace hm := hm.2 hb
 refine rPb T hS [(1, Pt 2 0), (22, B ((decide (o_.Kind < 0)) || (decide (o_.Kind ≥ 64))))] (sp := [26]) fun a hS => ?_
 refine aG hS (b := ((decide (o_.Kind < 0)) || (decide (o_.Kind ≥ 64)))) kr (fun hb => ?_) fun hb => ?_
 ·replace hm := hm.1 hb
  refine rP T hS ⟨[(2, I 31)], []⟩ fun a hS => ?_
  refine aU ?_
  exact fin T hS hO (fun c => c) rfl (r := [.int .i64 31]) kr (fun X' hM hC => ⟨31, hm, rfl⟩)
 replace hm := hm.2 hb
 refine bb ?_
 refine oP T hS 1 ⟨[(32, V (.agg #[.int .i64 o_.ab, .int .i64 o_.Kind, .int .i64 o_.aA, .int .i64 o_.End, .int .i64 o_.Result]))], []⟩ fun a hS => ?_
 refine op1 (call hS kr kr hb96 kr (fun _ _ => rfl) (k96 _ _ o_) ?_)
 intro v101 a w102 X103 hE hp hS
 replace hO := hO.m2 hE
 obtain ⟨r104, hr⟩ : ∃ r, cW o_ = r := ⟨_, rfl⟩
 replace hm := hm r104 hr
 rw [hr] at hp
 clear hr
 subst hp
 refine ePb T hS [(31, B (!r104))] fun a hS => ?_
 refine aG hS (b := (!r104)) kr (fun hb => ?_) fun hb => ?_
 ·replace hm := hm.1 hb
  refine rPb T hS [(2, I 7)] fun a hS => ?_
  refine aU ?_
  exact fin T hS hO (fun c => c) rfl (r := [.int .i64 7]) kr (fun X' hM hC => ⟨7, hm, rfl⟩)
 replace hm := hm.2 hb
 refine aJ ?_
 refine rPb T hS [(2, I 0)] fun a hS => ?_
 refine aU ?_
 exact fin T hS hO (fun c => c) rfl (r := [.int .i64 0]) kr (fun X' hM hC => ⟨0, hm, rfl⟩)
theorem C91 (k96 : S96) (v : ∀ (o_ : aa), VC91 o_ (fun r => r = cX o_)) : S91 := by
 intro w X o_    
 refine (W91 k96 w X o_    _ (v o_)).mono ?_
 rintro _ _ _ _ ⟨r, rfl, h⟩
 exact h
theorem W79 (k57 : S57) (k91 : S91) (w0) (X0) (l_ : List aa) (a1) (c1) (Q : Int × Int -> Prop) (hm : VC79 l_ Q) (h1 : RS aq w0 X0 a1 l_ c1) :
  Ret Try.prog 79 #[.slice a1 l_.length c1] aF w0 X0 (fun w X' v => ∃ r, Q r /\ v = .tuple #[.int .i64 r.1, .int .i64 r.2]) := by
 unfold VC79 at hm
 replace hm := hm (h1.sm kr)
 refine enter Try.func79 rfl (vals := [.slice a1 l_.length c1]) kr ?_
 intro Z a hS hO hM
 replace h1 := h1.m0 hM
 refine rPb T hS [(0, Sl a1 l_ c1)] fun a hS => ?_
 refine ba ?_
 refine rPb T hS [(0, Sl a1 l_ c1), (13, B (decide ((lN l_) > 5000)))] fun a hS => ?_
 refine aG hS (b := decide ((lN l_) > 5000)) kr (fun hb => ?_) fun hb => ?_
 ·replace hm := hm.1 hb
  refine rPb T hS [(2, I 0), (3, I 3)] fun a hS => ?_
  refine aU ?_
  exact fin T hS hO (fun c => c) rfl (r := [.int .i64 0, .int .i64 3]) kr (fun X' hM hC => ⟨(0, 3), hm, rfl⟩)
 replace hm := hm.2 hb
 refine aJ ?_
 refine bb ?_
 refine op1 (jo kI tI false 1015 hS kr kr ?_)
 intro r101 a w102 X103 hE h104 hS
 replace hO := hO.m2 hE
 replace h1 := h1.m1 hE
 refine ePb T hS [(0, Sl a1 l_ c1), (4, V (.map (some r101)))] fun a hS => ?_
 refine bb ?_
 refine op1 (jo kI aq true 1016 hS kr kr ?_)
 intro r105 a w106 X107 hE h108 hS
 replace hO := hO.m2 hE
 replace h1 := h1.m1 hE
 replace h104 := h104.m2 hE
 refine ePb T hS [(0, Sl a1 l_ c1), (4, V (.map (some r101))), (5, V (.map (some r105)))] fun a hS => ?_
 refine bU (fun a w => ∃ Z X, VC79_J1 l_ Q /\ St Try.f79.ntmps ⟨[(0, Sl a1 l_ c1)], []⟩ Z a w X /\ Old w0 X0 w X /\ RS aq w X a1 l_ c1) ?_ ?_
 ·refine rPb T hS [(0, Sl a1 l_ c1), (4, V (.map (some r101))), (5, V (.map (some r105))), (16, Sl a1 l_ c1), (17, I (lN l_)), (18, I 0)] fun a hS => ?_
  refine aO ?_
  obtain ⟨I1, μ1, hm0, hm⟩ := hm
  refine b8 (σ := (List (Int × Int)) × (List (Int × aa)) × Int) (fun s a w => ∃ Z X, I1 s.1 s.2.1 s.2.2 /\ St Try.f79.ntmps ⟨[(0, Sl a1 l_ c1), (4, V (.map (some r101))), (5, V (.map (some r105))), (16, Sl a1 l_ c1), (17, I (lN l_)), (18, I s.2.2)], []⟩ Z a w X /\ Old w0 X0 w X /\ RS aq w X a1 l_ c1 /\ OM kI tI false w X 1015 r101 s.1 /\ OM kI aq true w X 1016 r105 s.2.1 /\ RS aq w X a1 l_ c1) (fun s => μ1 s.1 s.2.1 s.2.2) (⟨([] : List (Int × Int)), ([] : List (Int × aa)), 0⟩) ?_ ?_
  ·exact ⟨Z, _, hm0, hS.sl _, hO, h1, h104, h108, h1⟩
  rintro ⟨y111, y113, y116⟩ a w174 ⟨Z, X173, hI, hS, hO, h110, h112, h114, h115⟩
  replace hm := hm y111 y113 y116 hI
  clear hI hm0
  refine rPb T hS [(0, Sl a1 l_ c1), (4, V (.map (some r101))), (5, V (.map (some r105))), (16, Sl a1 l_ c1), (17, I (lN l_)), (18, I y116), (19, B (decide (y116 < (lN l_))))] fun a hS => ?_
  refine ba ?_
  refine aG hS (b := decide (y116 < (lN l_))) kr (fun hb => ?_) fun hb => ?_
  ·replace hm := hm.1 hb
   refine aJ ?_
   refine bU (fun a w => ∃ (Z : Nat -> Nat) (X : Nat -> Nat) (y118 : List (Int × Int)), VC79_J2 l_ I1 μ1 y111 y113 y116 y118 /\ St Try.f79.ntmps ⟨[(0, Sl a1 l_ c1), (4, V (.map (some r101))), (5, V (.map (some r105))), (16, Sl a1 l_ c1), (17, I (lN l_)), (18, I y116)], []⟩ Z a w X /\ Old w0 X0 w X /\ RS aq w X a1 l_ c1 /\ OM kI tI false w X 1015 r101 y118 /\ OM kI aq true w X 1016 r105 (cg y113 ((gi l_ y116).ab) (gi l_ y116)) /\ RS aq w X a1 l_ c1) ?_ ?_
   ·refine aO ?_
    refine bb ?_
    refine oPb T hS 1 [(0, Sl a1 l_ c1), (4, V (.map (some r101))), (5, V (.map (some r105))), (16, Sl a1 l_ c1), (17, I (lN l_)), (18, I y116), (20, I y116)] fun a hS => ?_
    obtain ⟨hq, hm⟩ := hm
    refine op1 (index (e := 80) (k := .i64) T hS kr kr kr kr h115 kr kr hq.1 hq.2 ?_)
    intro A122 a h123 hS
    refine op1 (di T hS kr kr kr h123 kr kr ?_)
    intro v124 a hv hS
    subst hv
    refine eM T hS ⟨[(0, Sl a1 l_ c1), (4, V (.map (some r101))), (5, V (.map (some r105))), (6, I y116), (7, Pt 8 0), (16, Sl a1 l_ c1), (17, I (lN l_)), (18, I y116)], [(8, (80, (cP (gi l_ y116))))]⟩ fun Z a w169 X170 hS hE hr => ?_
    replace hO := hO.m2 hE
    replace h110 := h110.m1 hE
    replace h112 := h112.m2 hE
    replace h114 := h114.m2 hE
    replace h115 := h115.m1 hE
    clear hE hr
    refine ba ?_
    refine bb ?_
    refine oPb T hS 1 [(0, Sl a1 l_ c1), (4, V (.map (some r101))), (5, V (.map (some r105))), (6, I y116), (7, Pt 8 0), (16, Sl a1 l_ c1), (17, I (lN l_)), (18, I y116), (23, V (.agg #[.int .i64 ((gi l_ y116).ab), .int .i64 ((gi l_ y116).Kind), .int .i64 ((gi l_ y116).aA), .int .i64 ((gi l_ y116).End), .int .i64 ((gi l_ y116).Result)]))] fun a hS => ?_
    refine op1 (call hS kr kr hb91 kr (fun _ _ => rfl) (k91 _ _ (gi l_ y116)) ?_)
    intro v125 a w126 X127 hE hp hS
    replace hO := hO.m2 hE
    replace h110 := h110.m1 hE
    replace h112 := h112.m2 hE
    replace h114 := h114.m2 hE
    replace h115 := h115.m1 hE
    obtain ⟨r128, hr⟩ : ∃ r, cX (gi l_ y116) = r := ⟨_, rfl⟩
    replace hm := hm r128 hr
    rw [hr] at hp
    clear hr
    subst hp
    refine ePb T hS [(0, Sl a1 l_ c1), (4, V (.map (some r101))), (5, V (.map (some r105))), (6, I y116), (7, Pt 8 0), (8, I r128), (16, Sl a1 l_ c1), (17, I (lN l_)), (18, I y116)] fun a hS => ?_
    refine rPb T hS [(0, Sl a1 l_ c1), (4, V (.map (some r101))), (5, V (.map (some r105))), (6, I y116), (7, Pt 8 0), (8, I r128), (16, Sl a1 l_ c1), (17, I (lN l_)), (18, I y116), (26, B (r128 != 0))] fun a hS => ?_
    refine aG hS (b := (r128 != 0)) kr (fun hb => ?_) fun hb => ?_
    ·replace hm := hm.1 hb
     refine rP T hS ⟨[(2, I y116), (3, I r128)], []⟩ fun a hS => ?_
     refine aU ?_
     exact fin T hS hO (fun c => c) rfl (r := [.int .i64 y116, .int .i64 r128]) kr (fun X' hM hC => ⟨(y116, r128), hm, rfl⟩)
    replace hm := hm.2 hb
    refine aJ (ba ?_)
    refine bU (fun a w => ∃ (Z : Nat -> Nat) (X : Nat -> Nat) (y133 : Bool), VC79_J3 l_ Q I1 μ1 y111 y113 y116 y133 /\ St Try.f79.ntmps ⟨[(0, Sl a1 l_ c1), (4, V (.map (some r101))), (5, V (.map (some r105))), (6, I y116), (7, Pt 8 0), (16, Sl a1 l_ c1), (17, I (lN l_)), (18, I y116), (60, B y133)], [(8, (80, (cP (gi l_ y116))))]⟩ Z a w X /\ Old w0 X0 w X /\ RS aq w X a1 l_ c1 /\ OM kI tI false w X 1015 r101 y111 /\ OM kI aq true w X 1016 r105 y113 /\ RS aq w X a1 l_ c1) ?_ ?_
    ·refine fj [8] mixed hS ?_
     intro w156 X157 hS hE hD hH
     replace hO := hO.m2 hE
     replace h110 := h110.m1 hE
     replace h112 := h112.m2 hE
     replace h114 := h114.m2 hE
     replace h115 := h115.m1 hE
     refine tkc T [0, 1, 2] [8] hS hH #[true, true, true, false, false, false, false, false, false, false, false, false, false, false, false, false, false, false, false, false, false, false, false, false, false, false, false, false, false, false, false, false] 29 [(0, Sl a1 l_ c1), (4, V (.map (some r101))), (5, V (.map (some r105))), (6, I y116), (7, Pt 8 0), (16, Sl a1 l_ c1), (17, I (lN l_)), (18, I y116), (31, B (decide (y116 > 0)))] fun a hS => ?_
     rcases bft (decide (y116 > 0)) with hb | hb
     ·replace hS := hS.lit (t := 31) kr hb
      replace hm := hm.1 hb
      refine tkc T [3, 5, 6, 4, 7] [8] hS hH #[true, true, true, true, true, true, true, true, false, false, false, false, false, false, false, false, false, false, false, false, false, false, false, false, false, false, false, false, false, false, false, false] 24 [(0, Sl a1 l_ c1), (4, V (.map (some r101))), (5, V (.map (some r105))), (6, I y116), (7, Pt 8 0), (16, Sl a1 l_ c1), (17, I (lN l_)), (18, I y116), (31, B true), (33, I ((gi l_ y116).aA)), (34, Sl a1 l_ c1), (36, I (wR (y116 - 1)))] fun a hS => ?_
      obtain ⟨hq, hm⟩ := hm
      refine cD (e := 80) (k := .i64) T 8 hS kr kr kr (by rfl) kr hH kr kr h110 kr kr hq.1 hq.2 ?_
      intro A158 a h159 hS
      have h159b := h159.here
      refine db (off := 2) (fsz := 1) (ft := 3) (TF := tI) (y := (gi l_ (wR (y116 - 1))).aA) 9 T hS kr kr kr (by rfl) kr hH kr h159 kr kr kr (fun cs h => jy h) ?_
      intro A160 a h161 hbl hS
      have h161b := h159b
      rw [← hbl] at h161b
      clear hbl
      refine dB T 10 hS kr kr kr (by rfl) kr hH kr h161 h161b rfl kr ?_
      intro v162 a hv hS
      cases hv
      refine tkc T [11, 12, 13] [8] hS hH #[true, true, true, true, true, true, true, true, true, true, true, true, true, true, false, false, false, false, false, false, false, false, false, false, false, false, false, false, false, false, false, false] 18 [(0, Sl a1 l_ c1), (4, V (.map (some r101))), (5, V (.map (some r105))), (6, I y116), (7, Pt 8 0), (16, Sl a1 l_ c1), (17, I (lN l_)), (18, I y116), (42, B (decide (((gi l_ y116).aA) ≤ ((gi l_ (wR (y116 - 1))).aA))))] fun a hS => ?_
      rcases bft (decide (((gi l_ y116).aA) ≤ ((gi l_ (wR (y116 - 1))).aA))) with hb | hb
      ·replace hS := hS.lit (t := 42) kr hb
       replace hm := hm.1 hb
       refine tkc T [14, 15, 16, 17, 18, 19, 20, 21, 22, 23, 24, 25, 26, 27, 28, 29, 30, 31] [8] hS hH (tts 32) 0 [(0, Sl a1 l_ c1), (4, V (.map (some r101))), (5, V (.map (some r105))), (6, I y116), (7, Pt 8 0), (16, Sl a1 l_ c1), (17, I (lN l_)), (18, I y116), (60, B true)] fun a hS => ?_
       refine aM kr ?_
       replace hS := hS.slb [(0, Sl a1 l_ c1), (4, V (.map (some r101))), (5, V (.map (some r105))), (6, I y116), (7, Pt 8 0), (16, Sl a1 l_ c1), (17, I (lN l_)), (18, I y116), (60, B true)]
       exact ⟨Z, _, true, hm, hS.sl _, hO, h110, h112, h114, h115⟩
      replace hS := hS.lit (t := 42) kr hb
      replace hm := hm.2 hb
      refine tkc T [14, 15, 16] [8] hS hH #[true, true, true, true, true, true, true, true, true, true, true, true, true, true, true, true, true, false, false, false, false, false, false, false, false, false, false, false, false, false, false, false] 15 [(0, Sl a1 l_ c1), (4, V (.map (some r101))), (5, V (.map (some r105))), (6, I y116), (7, Pt 8 0), (16, Sl a1 l_ c1), (17, I (lN l_)), (18, I y116), (42, B false), (43, V (.map (some r101))), (45, I ((gi l_ y116).aA))] fun a hS => ?_
      refine only 17 kr (by rfl) (fM kI tI false (zv := .int .i64 0) (z := 0) ((gi l_ y116).aA) hS kr kr kr kr Try.underlying71 Try.underlying3 kr rfl h112 ?_)
      intro v163 a hv hS
      replace hv : tI.R _ _ [v163] _ := hv
      cases hv
      refine bX (bl.of hS (bks := [8]) kr hD) ?_
      intro hH
      refine tkc T [18, 19, 20] [8] hS hH #[true, true, true, true, true, true, true, true, true, true, true, true, true, true, true, true, true, true, true, true, true, false, false, false, false, false, false, false, false, false, false, false] 11 [(0, Sl a1 l_ c1), (4, V (.map (some r101))), (5, V (.map (some r105))), (6, I y116), (7, Pt 8 0), (16, Sl a1 l_ c1), (17, I (lN l_)), (18, I y116), (49, B (decide (((ay y111 ((gi l_ y116).aA)).getD 0) > 0)))] fun a hS => ?_
      rcases bft (decide (((ay y111 ((gi l_ y116).aA)).getD 0) > 0)) with hb | hb
      ·replace hS := hS.lit (t := 49) kr hb
       replace hm := hm.1 hb
       refine tkc T [21, 22, 23, 24, 25, 26, 27, 28, 29, 30, 31] [8] hS hH (tts 32) 0 [(0, Sl a1 l_ c1), (4, V (.map (some r101))), (5, V (.map (some r105))), (6, I y116), (7, Pt 8 0), (16, Sl a1 l_ c1), (17, I (lN l_)), (18, I y116), (60, B true)] fun a hS => ?_
       refine aM kr ?_
       replace hS := hS.slb [(0, Sl a1 l_ c1), (4, V (.map (some r101))), (5, V (.map (some r105))), (6, I y116), (7, Pt 8 0), (16, Sl a1 l_ c1), (17, I (lN l_)), (18, I y116), (60, B true)]
       exact ⟨Z, _, true, hm, hS.sl _, hO, h110, h112, h114, h115⟩
      replace hS := hS.lit (t := 49) kr hb
      replace hm := hm.2 hb
      refine tkc T [21, 22, 23, 24] [8] hS hH #[true, true, true, true, true, true, true, true, true, true, true, true, true, true, true, true, true, true, true, true, true, true, true, true, true, false, false, false, false, false, false, false] 7 [(0, Sl a1 l_ c1), (4, V (.map (some r101))), (5, V (.map (some r105))), (6, I y116), (7, Pt 8 0), (16, Sl a1 l_ c1), (17, I (lN l_)), (18, I y116), (49, B false), (53, B (decide (((gi l_ y116).End) ≥ 0)))] fun a hS => ?_
      rcases bft (decide (((gi l_ y116).End) ≥ 0)) with hb | hb
      ·replace hS := hS.lit (t := 53) kr hb
       replace hm := hm.1 hb
       refine tkc T [25, 26, 27] [8] hS hH #[true, true, true, true, true, true, true, true, true, true, true, true, true, true, true, true, true, true, true, true, true, true, true, true, true, true, true, true, false, false, false, false] 4 [(0, Sl a1 l_ c1), (4, V (.map (some r101))), (5, V (.map (some r105))), (6, I y116), (7, Pt 8 0), (16, Sl a1 l_ c1), (17, I (lN l_)), (18, I y116), (49, B false), (53, B true), (54, V (.map (some r101))), (56, I ((gi l_ y116).End))] fun a hS => ?_
       refine only 28 kr (by rfl) (fM kI tI false (zv := .int .i64 0) (z := 0) ((gi l_ y116).End) hS kr kr kr kr Try.underlying71 Try.underlying3 kr rfl h112 ?_)
       intro v164 a hv hS
       replace hv : tI.R _ _ [v164] _ := hv
       cases hv
       refine bX (bl.of hS (bks := [8]) kr hD) ?_
       intro hH
       refine tkc T [29, 30, 31] [8] hS hH (tts 32) 0 [(0, Sl a1 l_ c1), (4, V (.map (some r101))), (5, V (.map (some r105))), (6, I y116), (7, Pt 8 0), (16, Sl a1 l_ c1), (17, I (lN l_)), (18, I y116), (60, B (decide (((ay y111 ((gi l_ y116).End)).getD 0) > 0)))] fun a hS => ?_
       refine aM kr ?_
       replace hS := hS.slb [(0, Sl a1 l_ c1), (4, V (.map (some r101))), (5, V (.map (some r105))), (6, I y116), (7, Pt 8 0), (16, Sl a1 l_ c1), (17, I (lN l_)), (18, I y116), (60, B (decide (((ay y111 ((gi l_ y116).End)).getD 0) > 0)))]
       exact ⟨Z, _, decide (((ay y111 ((gi l_ y116).End)).getD 0) > 0), hm, hS.sl _, hO, h110, h112, h114, h115⟩
      replace hS := hS.lit (t := 53) kr hb
      replace hm := hm.2 hb
      refine tkc T [25, 26, 27, 28, 29, 30, 31] [8] hS hH (tts 32) 0 [(0, Sl a1 l_ c1), (4, V (.map (some r101))), (5, V (.map (some r105))), (6, I y116), (7, Pt 8 0), (16, Sl a1 l_ c1), (17, I (lN l_)), (18, I y116), (60, B false)] fun a hS => ?_
      refine aM kr ?_
      replace hS := hS.slb [(0, Sl a1 l_ c1), (4, V (.map (some r101))), (5, V (.map (some r105))), (6, I y116), (7, Pt 8 0), (16, Sl a1 l_ c1), (17, I (lN l_)), (18, I y116), (60, B false)]
      exact ⟨Z, _, false, hm, hS.sl _, hO, h110, h112, h114, h115⟩
     replace hS := hS.lit (t := 31) kr hb
     replace hm := hm.2 hb
     refine tkc T [3, 5, 6, 4, 7, 8, 9, 10, 11, 12, 13, 14, 15, 16] [8] hS hH #[true, true, true, true, true, true, true, true, true, true, true, true, true, true, true, true, true, false, false, false, false, false, false, false, false, false, false, false, false, false, false, false] 15 [(0, Sl a1 l_ c1), (4, V (.map (some r101))), (5, V (.map (some r105))), (6, I y116), (7, Pt 8 0), (16, Sl a1 l_ c1), (17, I (lN l_)), (18, I y116), (42, B false), (43, V (.map (some r101))), (45, I ((gi l_ y116).aA))] fun a hS => ?_
     refine only 17 kr (by rfl) (fM kI tI false (zv := .int .i64 0) (z := 0) ((gi l_ y116).aA) hS kr kr kr kr Try.underlying71 Try.underlying3 kr rfl h112 ?_)
     intro v165 a hv hS
     replace hv : tI.R _ _ [v165] _ := hv
     cases hv
     refine bX (bl.of hS (bks := [8]) kr hD) ?_
     intro hH
     refine tkc T [18, 19, 20] [8] hS hH #[true, true, true, true, true, true, true, true, true, true, true, true, true, true, true, true, true, true, true, true, true, false, false, false, false, false, false, false, false, false, false, false] 11 [(0, Sl a1 l_ c1), (4, V (.map (some r101))), (5, V (.map (some r105))), (6, I y116), (7, Pt 8 0), (16, Sl a1 l_ c1), (17, I (lN l_)), (18, I y116), (49, B (decide (((ay y111 ((gi l_ y116).aA)).getD 0) > 0)))] fun a hS => ?_
     rcases bft (decide (((ay y111 ((gi l_ y116).aA)).getD 0) > 0)) with hb | hb
     ·replace hS := hS.lit (t := 49) kr hb
      replace hm := hm.1 hb
      refine tkc T [21, 22, 23, 24, 25, 26, 27, 28, 29, 30, 31] [8] hS hH (tts 32) 0 [(0, Sl a1 l_ c1), (4, V (.map (some r101))), (5, V (.map (some r105))), (6, I y116), (7, Pt 8 0), (16, Sl a1 l_ c1), (17, I (lN l_)), (18, I y116), (60, B true)] fun a hS => ?_
      refine aM kr ?_
      replace hS := hS.slb [(0, Sl a1 l_ c1), (4, V (.map (some r101))), (5, V (.map (some r105))), (6, I y116), (7, Pt 8 0), (16, Sl a1 l_ c1), (17, I (lN l_)), (18, I y116), (60, B true)]
      exact ⟨Z, _, true, hm, hS.sl _, hO, h110, h112, h114, h115⟩
     replace hS := hS.lit (t := 49) kr hb
     replace hm := hm.2 hb
     refine tkc T [21, 22, 23, 24] [8] hS hH #[true, true, true, true, true, true, true, true, true, true, true, true, true, true, true, true, true, true, true, true, true, true, true, true, true, false, false, false, false, false, false, false] 7 [(0, Sl a1 l_ c1), (4, V (.map (some r101))), (5, V (.map (some r105))), (6, I y116), (7, Pt 8 0), (16, Sl a1 l_ c1), (17, I (lN l_)), (18, I y116), (49, B false), (53, B (decide (((gi l_ y116).End) ≥ 0)))] fun a hS => ?_
     rcases bft (decide (((gi l_ y116).End) ≥ 0)) with hb | hb
     ·replace hS := hS.lit (t := 53) kr hb
      replace hm := hm.1 hb
      refine tkc T [25, 26, 27] [8] hS hH #[true, true, true, true, true, true, true, true, true, true, true, true, true, true, true, true, true, true, true, true, true, true, true, true, true, true, true, true, false, false, false, false] 4 [(0, Sl a1 l_ c1), (4, V (.map (some r101))), (5, V (.map (some r105))), (6, I y116), (7, Pt 8 0), (16, Sl a1 l_ c1), (17, I (lN l_)), (18, I y116), (49, B false), (53, B true), (54, V (.map (some r101))), (56, I ((gi l_ y116).End))] fun a hS => ?_
      refine only 28 kr (by rfl) (fM kI tI false (zv := .int .i64 0) (z := 0) ((gi l_ y116).End) hS kr kr kr kr Try.underlying71 Try.underlying3 kr rfl h112 ?_)
      intro v166 a hv hS
      replace hv : tI.R _ _ [v166] _ := hv
      cases hv
      refine bX (bl.of hS (bks := [8]) kr hD) ?_
      intro hH
      refine tkc T [29, 30, 31] [8] hS hH (tts 32) 0 [(0, Sl a1 l_ c1), (4, V (.map (some r101))), (5, V (.map (some r105))), (6, I y116), (7, Pt 8 0), (16, Sl a1 l_ c1), (17, I (lN l_)), (18, I y116), (60, B (decide (((ay y111 ((gi l_ y116).End)).getD 0) > 0)))] fun a hS => ?_
      refine aM kr ?_
      replace hS := hS.slb [(0, Sl a1 l_ c1), (4, V (.map (some r101))), (5, V (.map (some r105))), (6, I y116), (7, Pt 8 0), (16, Sl a1 l_ c1), (17, I (lN l_)), (18, I y116), (60, B (decide (((ay y111 ((gi l_ y116).End)).getD 0) > 0)))]
      exact ⟨Z, _, decide (((ay y111 ((gi l_ y116).End)).getD 0) > 0), hm, hS.sl _, hO, h110, h112, h114, h115⟩
     replace hS := hS.lit (t := 53) kr hb
     replace hm := hm.2 hb
     refine tkc T [25, 26, 27, 28, 29, 30, 31] [8] hS hH (tts 32) 0 [(0, Sl a1 l_ c1), (4, V (.map (some r101))), (5, V (.map (some r105))), (6, I y116), (7, Pt 8 0), (16, Sl a1 l_ c1), (17, I (lN l_)), (18, I y116), (60, B false)] fun a hS => ?_
     refine aM kr ?_
     replace hS := hS.slb [(0, Sl a1 l_ c1), (4, V (.map (some r101))), (5, V (.map (some r105))), (6, I y116), (7, Pt 8 0), (16, Sl a1 l_ c1), (17, I (lN l_)), (18, I y116), (60, B false)]
     exact ⟨Z, _, false, hm, hS.sl _, hO, h110, h112, h114, h115⟩
    rintro a w168 ⟨Z, X167, y133, hm, hS, hO, h129, h130, h131, h132⟩
    unfold VC79_J3 at hm
    refine aG hS (b := y133) kr (fun hb => ?_) fun hb => ?_
    ·replace hm := hm.1 hb
     refine rP T hS ⟨[(2, I y116), (3, I 32)], []⟩ fun a hS => ?_
     refine aU ?_
     exact fin T hS hO (fun c => c) rfl (r := [.int .i64 y116, .int .i64 32]) kr (fun X' hM hC => ⟨(y116, 32), hm, rfl⟩)
    replace hm := hm.2 hb
    refine aJ (ba ?_)
    refine bb ?_
    refine oPb T hS 3 [(0, Sl a1 l_ c1), (4, V (.map (some r101))), (5, V (.map (some r105))), (6, I y116), (7, Pt 8 0), (16, Sl a1 l_ c1), (17, I (lN l_)), (18, I y116), (63, V (.map (some r105))), (65, I ((gi l_ y116).ab))] fun a hS => ?_
    refine op1 (p7 kI aq true (zv := .agg #[.int .i64 0, .int .i64 0, .int .i64 0, .int .i64 0, .int .i64 0]) (z := (⟨0, 0, 0, 0, 0⟩ : aa)) ((gi l_ y116).ab) hS kr kr kr kr Try.underlying156 Try.underlying3 kr ⟨_, rfl, rfl⟩ h131 ?_)
    intro v134 a hv hS
    obtain ⟨_, rfl, hv⟩ := hv
    cases hv
    refine eM T hS ⟨[(0, Sl a1 l_ c1), (4, V (.map (some r101))), (5, V (.map (some r105))), (6, I y116), (7, Pt 8 0), (9, Pt 10 0), (10, B ((ay y113 ((gi l_ y116).ab)).isSome)), (16, Sl a1 l_ c1), (17, I (lN l_)), (18, I y116)], [(8, (80, (cP (gi l_ y116)))), (10, (80, (cP ((ay y113 ((gi l_ y116).ab)).getD (⟨0, 0, 0, 0, 0⟩ : aa)))))]⟩ fun Z a w154 X155 hS hE hr => ?_
    replace hO := hO.m2 hE
    replace h129 := h129.m1 hE
    replace h130 := h130.m2 hE
    replace h131 := h131.m2 hE
    replace h132 := h132.m1 hE
    clear hE hr
    refine bU (fun a w => ∃ (Z : Nat -> Nat) (X : Nat -> Nat) (y139 : Bool), VC79_J4 l_ Q I1 μ1 y111 y113 y116 y139 /\ St Try.f79.ntmps ⟨[(0, Sl a1 l_ c1), (4, V (.map (some r101))), (5, V (.map (some r105))), (6, I y116), (7, Pt 8 0), (16, Sl a1 l_ c1), (17, I (lN l_)), (18, I y116), (75, B y139)], [(8, (80, (cP (gi l_ y116))))]⟩ Z a w X /\ Old w0 X0 w X /\ RS aq w X a1 l_ c1 /\ OM kI tI false w X 1015 r101 y111 /\ OM kI aq true w X 1016 r105 y113 /\ RS aq w X a1 l_ c1) ?_ ?_
    ·refine region ?_
     refine oPb T hS 2 [(0, Sl a1 l_ c1), (4, V (.map (some r101))), (5, V (.map (some r105))), (6, I y116), (7, Pt 8 0), (9, Pt 10 0), (16, Sl a1 l_ c1), (17, I (lN l_)), (18, I y116), (70, B ((ay y113 ((gi l_ y116).ab)).isSome))] fun a hS => ?_
     rcases bft ((ay y113 ((gi l_ y116).ab)).isSome) with hb | hb
     ·replace hS := hS.lit (t := 70) kr hb
      replace hm := hm.1 hb
      refine oP T hS 2 ⟨[(0, Sl a1 l_ c1), (4, V (.map (some r101))), (5, V (.map (some r105))), (6, I y116), (7, Pt 8 0), (16, Sl a1 l_ c1), (17, I (lN l_)), (18, I y116), (70, B true), (71, V (.agg #[.int .i64 (((ay y113 ((gi l_ y116).ab)).getD (⟨0, 0, 0, 0, 0⟩ : aa)).ab), .int .i64 (((ay y113 ((gi l_ y116).ab)).getD (⟨0, 0, 0, 0, 0⟩ : aa)).Kind), .int .i64 (((ay y113 ((gi l_ y116).ab)).getD (⟨0, 0, 0, 0, 0⟩ : aa)).aA), .int .i64 (((ay y113 ((gi l_ y116).ab)).getD (⟨0, 0, 0, 0, 0⟩ : aa)).End), .int .i64 (((ay y113 ((gi l_ y116).ab)).getD (⟨0, 0, 0, 0, 0⟩ : aa)).Result)])), (72, V (.agg #[.int .i64 ((gi l_ y116).ab), .int .i64 ((gi l_ y116).Kind), .int .i64 ((gi l_ y116).aA), .int .i64 ((gi l_ y116).End), .int .i64 ((gi l_ y116).Result)]))], [(8, (80, (cP (gi l_ y116))))]⟩ fun a hS => ?_
      refine op1 (call hS kr kr hb57 kr (fun _ _ => rfl) (k57 _ _ ((ay y113 ((gi l_ y116).ab)).getD (⟨0, 0, 0, 0, 0⟩ : aa)) (gi l_ y116)) ?_)
      intro v148 a w149 X150 hE hp hS
      replace hO := hO.m2 hE
      replace h129 := h129.m1 hE
      replace h130 := h130.m2 hE
      replace h131 := h131.m2 hE
      replace h132 := h132.m1 hE
      obtain ⟨r151, hr⟩ : ∃ r, bF ((ay y113 ((gi l_ y116).ab)).getD (⟨0, 0, 0, 0, 0⟩ : aa)) (gi l_ y116) = r := ⟨_, rfl⟩
      replace hm := hm r151 hr
      rw [hr] at hp
      clear hr
      subst hp
      refine ePb T hS [(0, Sl a1 l_ c1), (4, V (.map (some r101))), (5, V (.map (some r105))), (6, I y116), (7, Pt 8 0), (16, Sl a1 l_ c1), (17, I (lN l_)), (18, I y116), (75, B (!r151))] fun a hS => ?_
      exact ⟨Z, _, (!r151), hm, hS.sl _, hO, h129, h130, h131, h132⟩
     replace hS := hS.lit (t := 70) kr hb
     replace hm := hm.2 hb
     refine eP T hS ⟨[(0, Sl a1 l_ c1), (4, V (.map (some r101))), (5, V (.map (some r105))), (6, I y116), (7, Pt 8 0), (16, Sl a1 l_ c1), (17, I (lN l_)), (18, I y116), (75, B false)], [(8, (80, (cP (gi l_ y116))))]⟩ fun a hS => ?_
     exact ⟨Z, _, false, hm, hS.sl _, hO, h129, h130, h131, h132⟩
    rintro a w153 ⟨Z, X152, y139, hm, hS, hO, h135, h136, h137, h138⟩
    unfold VC79_J4 at hm
    refine aG hS (b := y139) kr (fun hb => ?_) fun hb => ?_
    ·replace hm := hm.1 hb
     refine rP T hS ⟨[(2, I y116), (3, I 33)], []⟩ fun a hS => ?_
     refine aU ?_
     exact fin T hS hO (fun c => c) rfl (r := [.int .i64 y116, .int .i64 33]) kr (fun X' hM hC => ⟨(y116, 33), hm, rfl⟩)
    replace hm := hm.2 hb
    refine aJ ?_
    refine bb ?_
    refine oPb T hS 3 [(0, Sl a1 l_ c1), (4, V (.map (some r101))), (5, V (.map (some r105))), (7, Pt 8 0), (16, Sl a1 l_ c1), (17, I (lN l_)), (18, I y116), (77, V (.map (some r101))), (79, I ((gi l_ y116).aA))] fun a hS => ?_
    refine op1 (fM kI tI false (zv := .int .i64 0) (z := 0) ((gi l_ y116).aA) hS kr kr kr kr Try.underlying71 Try.underlying3 kr rfl h136 ?_)
    intro v140 a hv hS
    replace hv : tI.R _ _ [v140] _ := hv
    cases hv
    refine oPb T hS 1 [(0, Sl a1 l_ c1), (4, V (.map (some r101))), (5, V (.map (some r105))), (7, Pt 8 0), (16, Sl a1 l_ c1), (17, I (lN l_)), (18, I y116), (77, V (.map (some r101))), (79, I ((gi l_ y116).aA)), (81, I (wR (((ay y111 ((gi l_ y116).aA)).getD 0) + 1)))] fun a hS => ?_
    refine op1 (lA kI tI false (v := I (wR (((ay y111 ((gi l_ y116).aA)).getD 0) + 1))) (u := wR (((ay y111 ((gi l_ y116).aA)).getD 0) + 1)) ((gi l_ y116).aA) hS kr kr kr kr Try.underlying71 Try.underlying3 kr h136 rfl ?_)
    intro a w141 hE h142 hS
    clear h136
    replace hO := hO.m2 hE
    replace h135 := h135.m1 hE
    replace h137 := h137.m2 hE
    replace h138 := h138.m1 hE
    refine eO ?_
    refine bb ?_
    refine oPb T hS 4 [(0, Sl a1 l_ c1), (4, V (.map (some r101))), (5, V (.map (some r105))), (7, Pt 8 0), (16, Sl a1 l_ c1), (17, I (lN l_)), (18, I y116), (82, V (.map (some r105))), (84, I ((gi l_ y116).ab)), (85, V (.agg #[.int .i64 ((gi l_ y116).ab), .int .i64 ((gi l_ y116).Kind), .int .i64 ((gi l_ y116).aA), .int .i64 ((gi l_ y116).End), .int .i64 ((gi l_ y116).Result)]))] fun a hS => ?_
    refine op1 (lA kI aq true (v := V (.agg #[.int .i64 ((gi l_ y116).ab), .int .i64 ((gi l_ y116).Kind), .int .i64 ((gi l_ y116).aA), .int .i64 ((gi l_ y116).End), .int .i64 ((gi l_ y116).Result)])) (u := (gi l_ y116)) ((gi l_ y116).ab) hS kr kr kr kr Try.underlying156 Try.underlying3 kr h137 ⟨_, rfl, rfl⟩ ?_)
    intro a w143 hE h144 hS
    clear h137
    replace hO := hO.m2 hE
    replace h135 := h135.m1 hE
    replace h138 := h138.m1 hE
    replace h142 := h142.m2 hE
    refine eO ?_
    refine rPb T hS [(0, Sl a1 l_ c1), (4, V (.map (some r101))), (5, V (.map (some r105))), (7, Pt 8 0), (16, Sl a1 l_ c1), (17, I (lN l_)), (18, I y116), (88, B (decide (((gi l_ y116).End) ≥ 0)))] fun a hS => ?_
    refine aG hS (b := decide (((gi l_ y116).End) ≥ 0)) kr (fun hb => ?_) fun hb => ?_
    ·replace hm := hm.1 hb
     refine region ?_
     refine oP T hS 3 ⟨[(0, Sl a1 l_ c1), (4, V (.map (some r101))), (5, V (.map (some r105))), (16, Sl a1 l_ c1), (17, I (lN l_)), (18, I y116), (89, V (.map (some r101))), (91, I ((gi l_ y116).End))], []⟩ fun a hS => ?_
     refine op1 (fM kI tI false (zv := .int .i64 0) (z := 0) ((gi l_ y116).End) hS kr kr kr kr Try.underlying71 Try.underlying3 kr rfl h142 ?_)
     intro v145 a hv hS
     replace hv : tI.R _ _ [v145] _ := hv
     cases hv
     refine oPb T hS 1 [(0, Sl a1 l_ c1), (4, V (.map (some r101))), (5, V (.map (some r105))), (16, Sl a1 l_ c1), (17, I (lN l_)), (18, I y116), (89, V (.map (some r101))), (91, I ((gi l_ y116).End)), (93, I (wR (((ay (cg y111 ((gi l_ y116).aA) (wR (((ay y111 ((gi l_ y116).aA)).getD 0) + 1))) ((gi l_ y116).End)).getD 0) + 1)))] fun a hS => ?_
     refine op1 (lA kI tI false (v := I (wR (((ay (cg y111 ((gi l_ y116).aA) (wR (((ay y111 ((gi l_ y116).aA)).getD 0) + 1))) ((gi l_ y116).End)).getD 0) + 1))) (u := wR (((ay (cg y111 ((gi l_ y116).aA) (wR (((ay y111 ((gi l_ y116).aA)).getD 0) + 1))) ((gi l_ y116).End)).getD 0) + 1)) ((gi l_ y116).End) hS kr kr kr kr Try.underlying71 Try.underlying3 kr h142 rfl ?_)
     intro a w146 hE h147 hS
     clear h142
     replace hO := hO.m2 hE
     replace h135 := h135.m1 hE
     replace h138 := h138.m1 hE
     replace h144 := h144.m2 hE
     refine eO ?_
     exact ⟨Z, _, cg (cg y111 ((gi l_ y116).aA) (wR (((ay y111 ((gi l_ y116).aA)).getD 0) + 1))) ((gi l_ y116).End) (wR (((ay (cg y111 ((gi l_ y116).aA) (wR (((ay y111 ((gi l_ y116).aA)).getD 0) + 1))) ((gi l_ y116).End)).getD 0) + 1)), hm, hS.sl _, hO, h135, h147, h144, h138⟩
    replace hm := hm.2 hb
    refine aJ ?_
    exact ⟨Z, _, cg y111 ((gi l_ y116).aA) (wR (((ay y111 ((gi l_ y116).aA)).getD 0) + 1)), hm, hS.sl _, hO, h135, h142, h144, h138⟩
   rintro a w172 ⟨Z, X171, y118, hm, hS, hO, h117, h119, h120, h121⟩
   unfold VC79_J2 at hm
   refine region (ePb T hS [(0, Sl a1 l_ c1), (4, V (.map (some r101))), (5, V (.map (some r105))), (16, Sl a1 l_ c1), (17, I (lN l_)), (18, I (wR (y116 + 1)))] fun a hS => ?_)
   exact ⟨⟨y118, cg y113 ((gi l_ y116).ab) (gi l_ y116), wR (y116 + 1)⟩, ⟨Z, _, hm.1, hS.sl _, hO, h117, h119, h120, h121⟩, hm.2⟩
  replace hm := hm.2 hb
  refine b0 (by rfl) ?_
  exact ⟨Z, _, hm, hS.sl _, hO, h110⟩
 rintro a w176 ⟨Z, X175, hm, hS, hO, h109⟩
 unfold VC79_J1 at hm
 refine rPb T hS [(2, I (lN l_)), (3, I 0)] fun a hS => ?_
 refine aU ?_
 exact fin T hS hO (fun c => c) rfl (r := [.int .i64 (lN l_), .int .i64 0]) kr (fun X' hM hC => ⟨((lN l_), 0), hm, rfl⟩)
theorem C79 (k57 : S57) (k91 : S91) (v : ∀ (l_ : List aa), VC79 l_ (fun r => r = b6 l_)) : S79 := by
 intro w X l_ a1 c1   h1
 refine (W79 k57 k91 w X l_ a1 c1   _ (v l_) h1).mono ?_
 rintro _ _ _ _ ⟨r, rfl, h⟩
 exact h
theorem W86 (k24 : S24) (k44 : S44) (k45 : S45) (k46 : S46) (k79 : S79) (w0) (X0) (o_ : ai) (l_ : List aa) (picks : List ah) (a1) (c1) (a2) (c2) (a3) (c3) (Q : Int × Int -> Prop) (hm : VC86 o_ l_ picks Q) (h1 : RS aw w0 X0 a1 o_.Rows c1) (h2 : RS aq w0 X0 a2 l_ c2) (h3 : RS au w0 X0 a3 picks c3) :
  Ret Try.prog 86 #[.agg #[.int .i64 o_.ao, .int .i64 o_.av, .int .i64 o_.aC, .slice a1 o_.Rows.length c1], .slice a2 l_.length c2, .slice a3 picks.length c3] aF w0 X0 (fun w X' v => ∃ r, Q r /\ v = .tuple #[.int .i64 r.1, .int .i64 r.2]) := by
 unfold VC86 at hm
 replace hm := hm (h1.sm kr)
 replace hm := hm (h2.sm kr)
 replace hm := hm (h3.sm kr)
 refine enter Try.func86 rfl (vals := [.agg #[.int .i64 o_.ao, .int .i64 o_.av, .int .i64 o_.aC, .slice a1 o_.Rows.length c1], .slice a2 l_.length c2, .slice a3 picks.length c3]) kr ?_
 intro Z a hS hO hM
 replace h1 := h1.m0 hM
 replace h2 := h2.m0 hM
 replace h3 := h3.m0 hM
 refine rM T hS ⟨[(1, Sl a2 l_ c2), (2, Sl a3 picks c3), (3, Pt 4 0)], [(4, (42, (cO o_ a1 c1)))]⟩ fun Z a w127 X128 hS hE hr => ?_
 replace hO := hO.m2 hE
 replace h1 := h1.m1 hE
 replace h2 := h2.m1 hE
 replace h3 := h3.m1 hE
 clear hE hr
 refine bb ?_
 refine oPb T hS 1 [(1, Sl a2 l_ c2), (2, Sl a3 picks c3), (3, Pt 4 0), (18, V (.agg #[.int .i64 o_.ao, .int .i64 o_.av, .int .i64 o_.aC, .slice a1 o_.Rows.length c1]))] fun a hS => ?_
 obtain ⟨hq, hm⟩ := hm
 refine op1 (call hS kr kr hb24 kr (fun _ _ => rfl) (k24 _ _ o_ a1 c1 hq h1) ?_)
 intro v101 a w102 X103 hE hp hS
 replace hO := hO.m2 hE
 replace h1 := h1.m1 hE
 replace h2 := h2.m1 hE
 replace h3 := h3.m1 hE
 obtain ⟨r104, hr⟩ : ∃ r, bd o_ = r := ⟨_, rfl⟩
 replace hm := hm r104 hr
 rw [hr] at hp
 clear hr
 subst hp
 refine ePb T hS [(1, Sl a2 l_ c2), (2, Sl a3 picks c3), (3, Pt 4 0), (9, I r104.2)] fun a hS => ?_
 refine bb ?_
 refine oPb T hS 1 [(1, Sl a2 l_ c2), (2, Sl a3 picks c3), (3, Pt 4 0), (9, I r104.2), (23, Sl a2 l_ c2)] fun a hS => ?_
 refine op1 (call hS kr kr hb79 kr (fun _ _ => rfl) (k79 _ _ l_ a2 c2 h2) ?_)
 intro v105 a w106 X107 hE hp hS
 replace hO := hO.m2 hE
 replace h1 := h1.m1 hE
 replace h2 := h2.m1 hE
 replace h3 := h3.m1 hE
 obtain ⟨r108, hr⟩ : ∃ r, b6 l_ = r := ⟨_, rfl⟩
 replace hm := hm r108 hr
 rw [hr] at hp
 clear hr
 subst hp
 refine ePb T hS [(1, Sl a2 l_ c2), (2, Sl a3 picks c3), (3, Pt 4 0), (9, I r104.2), (11, I r108.2)] fun a hS => ?_
 refine ba ?_
 refine rPb T hS [(1, Sl a2 l_ c2), (2, Sl a3 picks c3), (3, Pt 4 0), (32, B ((r104.2 != 0) || (r108.2 != 0)))] (sp := [29]) fun a hS => ?_
 refine aG hS (b := ((r104.2 != 0) || (r108.2 != 0))) kr (fun hb => ?_) fun hb => ?_
 ·replace hm := hm.1 hb
  refine rP T hS ⟨[(6, I (-1)), (7, I 2)], []⟩ fun a hS => ?_
  refine aU ?_
  exact fin T hS hO (fun c => c) rfl (r := [.int .i64 (-1), .int .i64 2]) kr (fun X' hM hC => ⟨((-1), 2), hm, rfl⟩)
 replace hm := hm.2 hb
 refine aJ (ba ?_)
 refine bb ?_
 refine oP T hS 3 ⟨[(1, Sl a2 l_ c2), (2, Sl a3 picks c3), (34, V (.agg #[.int .i64 o_.ao, .int .i64 o_.av, .int .i64 o_.aC, .slice a1 o_.Rows.length c1])), (35, Sl a2 l_ c2), (36, Sl a3 picks c3)], []⟩ fun a hS => ?_
 obtain ⟨hq, hm⟩ := hm
 refine op1 (call hS kr kr hb44 kr (fun _ _ => rfl) (k44 _ _ o_ l_ picks a1 c1 a2 c2 a3 c3 hq h1 h2 h3) ?_)
 intro v109 a w110 X111 hE hp hS
 replace hO := hO.m2 hE
 replace h1 := h1.m1 hE
 replace h2 := h2.m1 hE
 replace h3 := h3.m1 hE
 obtain ⟨r112, hr⟩ : ∃ r, cr o_ l_ picks = r := ⟨_, rfl⟩
 replace hm := hm r112 hr
 rw [hr] at hp
 clear hr
 subst hp
 refine ePb T hS [(1, Sl a2 l_ c2), (2, Sl a3 picks c3), (13, I r112.2.1), (14, I r112.2.2)] fun a hS => ?_
 refine rPb T hS [(1, Sl a2 l_ c2), (2, Sl a3 picks c3), (13, I r112.2.1), (14, I r112.2.2), (42, B (r112.2.2 != 0))] fun a hS => ?_
 refine aG hS (b := (r112.2.2 != 0)) kr (fun hb => ?_) fun hb => ?_
 ·replace hm := hm.1 hb
  refine rPb T hS [(6, I r112.2.1), (7, I r112.2.2)] fun a hS => ?_
  refine aU ?_
  exact fin T hS hO (fun c => c) rfl (r := [.int .i64 r112.2.1, .int .i64 r112.2.2]) kr (fun X' hM hC => ⟨(r112.2.1, r112.2.2), hm, rfl⟩)
 replace hm := hm.2 hb
 refine aJ (ba ?_)
 refine bb ?_
 refine oPb T hS 2 [(1, Sl a2 l_ c2), (2, Sl a3 picks c3), (45, Sl a2 l_ c2), (46, Sl a3 picks c3)] fun a hS => ?_
 refine op1 (call hS kr kr hb45 kr (fun _ _ => rfl) (k45 _ _ l_ picks a2 c2 a3 c3 h2 h3) ?_)
 intro v113 a w114 X115 hE hp hS
 replace hO := hO.m2 hE
 replace h2 := h2.m1 hE
 replace h3 := h3.m1 hE
 obtain ⟨r116, hr⟩ : ∃ r, bR l_ picks = r := ⟨_, rfl⟩
 replace hm := hm r116 hr
 rw [hr] at hp
 clear hr
 subst hp
 refine ePb T hS [(1, Sl a2 l_ c2), (2, Sl a3 picks c3), (15, I r116)] fun a hS => ?_
 refine rPb T hS [(1, Sl a2 l_ c2), (2, Sl a3 picks c3), (15, I r116), (49, B (decide (r116 ≥ 0)))] fun a hS => ?_
 refine aG hS (b := decide (r116 ≥ 0)) kr (fun hb => ?_) fun hb => ?_
 ·replace hm := hm.1 hb
  refine rPb T hS [(6, I r116), (7, I 42)] fun a hS => ?_
  refine aU ?_
  exact fin T hS hO (fun c => c) rfl (r := [.int .i64 r116, .int .i64 42]) kr (fun X' hM hC => ⟨(r116, 42), hm, rfl⟩)
 replace hm := hm.2 hb
 refine aJ (ba ?_)
 refine bb ?_
 refine oPb T hS 2 [(2, Sl a3 picks c3), (51, Sl a2 l_ c2), (52, Sl a3 picks c3)] fun a hS => ?_
 obtain ⟨hq, hm⟩ := hm
 refine op1 (call hS kr kr hb46 kr (fun _ _ => rfl) (k46 _ _ l_ picks a2 c2 a3 c3 hq h2 h3) ?_)
 intro v117 a w118 X119 hE hp hS
 replace hO := hO.m2 hE
 replace h2 := h2.m1 hE
 replace h3 := h3.m1 hE
 obtain ⟨a121, c122, hp, h123⟩ := hp
 obtain ⟨r120, hr⟩ : ∃ r, bO l_ picks = r := ⟨_, rfl⟩
 replace hm := hm r120 hr
 rw [hr] at hp h123
 clear hr
 subst hp
 replace hm := hm (h123.sm kr)
 refine ePb T hS [(2, Sl a3 picks c3), (16, Sl a121 r120 c122)] fun a hS => ?_
 refine rPb T hS [(2, Sl a3 picks c3), (16, Sl a121 r120 c122), (56, B (decide ((lN r120) > 0)))] fun a hS => ?_
 refine aG hS (b := decide ((lN r120) > 0)) kr (fun hb => ?_) fun hb => ?_
 ·replace hm := hm.1 hb
  refine bb ?_
  refine oPb T hS 1 [(57, Sl a121 r120 c122)] fun a hS => ?_
  obtain ⟨hq, hm⟩ := hm
  refine op1 (index (e := 3) (k := .i64) T hS kr kr kr kr h123 kr kr hq.1 hq.2 ?_)
  intro A124 a h125 hS
  refine op1 (ec T hS kr kr kr h125 rfl kr ?_)
  intro v126 a hv hS
  cases hv
  refine ePb T hS [(6, I (gi r120 0)), (7, I 41)] fun a hS => ?_
  refine aU ?_
  exact fin T hS hO (fun c => c) rfl (r := [.int .i64 (gi r120 0), .int .i64 41]) kr (fun X' hM hC => ⟨(gi r120 0, 41), hm, rfl⟩)
 replace hm := hm.2 hb
 refine aJ ?_
 refine rPb T hS [(6, I (lN picks)), (7, I 0)] fun a hS => ?_
 refine aU ?_
 exact fin T hS hO (fun c => c) rfl (r := [.int .i64 (lN picks), .int .i64 0]) kr (fun X' hM hC => ⟨((lN picks), 0), hm, rfl⟩)
theorem C86 (k24 : S24) (k44 : S44) (k45 : S45) (k46 : S46) (k79 : S79) (v : ∀ (o_ : ai) (l_ : List aa) (picks : List ah), gj o_ l_ picks -> VC86 o_ l_ picks (fun r => r = c8 o_ l_ picks)) : S86 := by
 intro w X o_ l_ picks a1 c1 a2 c2 a3 c3   hp h1 h2 h3
 refine (W86 k24 k44 k45 k46 k79 w X o_ l_ picks a1 c1 a2 c2 a3 c3   _ (v o_ l_ picks hp) h1 h2 h3).mono ?_
 rintro _ _ _ _ ⟨r, rfl, h⟩
 exact h
theorem W70 (k86 : S86) (w0) (X0) (o_ : ai) (l_ : List aa) (picks : List ah) (a1) (c1) (a2) (c2) (a3) (c3) (Q : Bool -> Prop) (hm : VC70 o_ l_ picks Q) (h1 : RS aw w0 X0 a1 o_.Rows c1) (h2 : RS aq w0 X0 a2 l_ c2) (h3 : RS au w0 X0 a3 picks c3) :
  Ret Try.prog 70 #[.agg #[.int .i64 o_.ao, .int .i64 o_.av, .int .i64 o_.aC, .slice a1 o_.Rows.length c1], .slice a2 l_.length c2, .slice a3 picks.length c3] aF w0 X0 (fun w X' v => ∃ r, Q r /\ v = .bool r) := by
 unfold VC70 at hm
 replace hm := hm (h1.sm kr)
 replace hm := hm (h2.sm kr)
 replace hm := hm (h3.sm kr)
 refine enter Try.func70 rfl (vals := [.agg #[.int .i64 o_.ao, .int .i64 o_.av, .int .i64 o_.aC, .slice a1 o_.Rows.length c1], .slice a2 l_.length c2, .slice a3 picks.length c3]) kr ?_
 intro Z a hS hO hM
 replace h1 := h1.m0 hM
 replace h2 := h2.m0 hM
 replace h3 := h3.m0 hM
 refine rM T hS ⟨[(1, Sl a2 l_ c2), (2, Sl a3 picks c3), (3, Pt 4 0)], [(4, (42, (cO o_ a1 c1)))]⟩ fun Z a w105 X106 hS hE hr => ?_
 replace hO := hO.m2 hE
 replace h1 := h1.m1 hE
 replace h2 := h2.m1 hE
 replace h3 := h3.m1 hE
 clear hE hr
 refine bb ?_
 refine oP T hS 3 ⟨[(10, V (.agg #[.int .i64 o_.ao, .int .i64 o_.av, .int .i64 o_.aC, .slice a1 o_.Rows.length c1])), (11, Sl a2 l_ c2), (12, Sl a3 picks c3)], []⟩ fun a hS => ?_
 obtain ⟨hq, hm⟩ := hm
 refine op1 (call hS kr kr hb86 kr (fun _ _ => rfl) (k86 _ _ o_ l_ picks a1 c1 a2 c2 a3 c3 hq h1 h2 h3) ?_)
 intro v101 a w102 X103 hE hp hS
 replace hO := hO.m2 hE
 replace h1 := h1.m1 hE
 replace h2 := h2.m1 hE
 replace h3 := h3.m1 hE
 obtain ⟨r104, hr⟩ : ∃ r, c8 o_ l_ picks = r := ⟨_, rfl⟩
 replace hm := hm r104 hr
 rw [hr] at hp
 clear hr
 subst hp
 refine ePb T hS [(8, I r104.2)] fun a hS => ?_
 refine rPb T hS [(6, B (r104.2 == 0))] fun a hS => ?_
 refine aU ?_
 exact fin T hS hO (fun c => c) rfl (r := [.bool (r104.2 == 0)]) kr (fun X' hM hC => ⟨(r104.2 == 0), hm, rfl⟩)
theorem C70 (k86 : S86) (v : ∀ (o_ : ai) (l_ : List aa) (picks : List ah), gj o_ l_ picks -> VC70 o_ l_ picks (fun r => r = c6 o_ l_ picks)) : S70 := by
 intro w X o_ l_ picks a1 c1 a2 c2 a3 c3   hp h1 h2 h3
 refine (W70 k86 w X o_ l_ picks a1 c1 a2 c2 a3 c3   _ (v o_ l_ picks hp) h1 h2 h3).mono ?_
 rintro _ _ _ _ ⟨r, rfl, h⟩
 exact h
theorem W28 (w0) (X0) (o_ : ai) (a1) (c1) (Q : Int × Int -> Prop) (hm : VC28 o_ Q) (h1 : RS aw w0 X0 a1 o_.Rows c1) :
  Ret Try.prog 28 #[.agg #[.int .i64 o_.ao, .int .i64 o_.av, .int .i64 o_.aC, .slice a1 o_.Rows.length c1]] aF w0 X0 (fun w X' v => ∃ r, Q r /\ v = .tuple #[.int .i64 r.1, .int .i64 r.2]) := by
 unfold VC28 at hm
 replace hm := hm (h1.sm kr)
 refine enter Try.func28 rfl (vals := [.agg #[.int .i64 o_.ao, .int .i64 o_.av, .int .i64 o_.aC, .slice a1 o_.Rows.length c1]]) kr ?_
 intro Z a hS hO hM
 replace h1 := h1.m0 hM
 refine rM T hS ⟨[(1, Pt 2 0)], [(2, (42, (cO o_ a1 c1)))]⟩ fun Z a w134 X135 hS hE hr => ?_
 replace hO := hO.m2 hE
 replace h1 := h1.m1 hE
 clear hE hr
 refine ba ?_
 refine rPb T hS [(1, Pt 2 0), (35, B ((((((decide (o_.ao < 1)) || (decide (o_.ao > 32))) || (decide (o_.av < 1))) || (decide (o_.av > 64))) || (decide (o_.aC < 0))) || (decide (o_.aC ≥ o_.ao))))] (sp := [9, 14, 19, 24, 29]) fun a hS => ?_
 refine aG hS (b := ((((((decide (o_.ao < 1)) || (decide (o_.ao > 32))) || (decide (o_.av < 1))) || (decide (o_.av > 64))) || (decide (o_.aC < 0))) || (decide (o_.aC ≥ o_.ao)))) kr (fun hb => ?_) fun hb => ?_
 ·replace hm := hm.1 hb
  refine rP T hS ⟨[(2, I (-1)), (3, I 2)], []⟩ fun a hS => ?_
  refine aU ?_
  exact fin T hS hO (fun c => c) rfl (r := [.int .i64 (-1), .int .i64 2]) kr (fun X' hM hC => ⟨((-1), 2), hm, rfl⟩)
 replace hm := hm.2 hb
 refine aJ ?_
 refine bU (fun a w => ∃ Z X, VC28_J1 o_ Q /\ St Try.f28.ntmps ⟨[(1, Pt 2 0)], [(2, (42, (cO o_ a1 c1)))]⟩ Z a w X /\ Old w0 X0 w X /\ RS aw w X a1 o_.Rows c1) ?_ ?_
 ·refine rPb T hS [(1, Pt 2 0), (4, I 0)] fun a hS => ?_
  refine aO ?_
  obtain ⟨I1, μ1, hm0, hm⟩ := hm
  refine b8 (σ := Int) (fun s a w => ∃ Z X, I1 s /\ St Try.f28.ntmps ⟨[(1, Pt 2 0), (4, I s)], [(2, (42, (cO o_ a1 c1)))]⟩ Z a w X /\ Old w0 X0 w X /\ RS aw w X a1 o_.Rows c1) (fun s => μ1 s) (0) ?_ ?_
  ·exact ⟨Z, _, hm0, hS.sl _, hO, h1⟩
  rintro y102 a w131 ⟨Z, X130, hI, hS, hO, h103⟩
  replace hm := hm y102 hI
  clear hI hm0
  refine ba ?_
  refine rPb T hS [(1, Pt 2 0), (4, I y102), (40, B (decide (y102 < (lN o_.Rows))))] fun a hS => ?_
  refine aG hS (b := decide (y102 < (lN o_.Rows))) kr (fun hb => ?_) fun hb => ?_
  ·replace hm := hm.1 hb
   refine aJ (ba ?_)
   refine aO ?_
   refine bb ?_
   refine oPb T hS 3 [(1, Pt 2 0), (4, I y102), (44, Sl a1 o_.Rows c1), (45, I y102)] fun a hS => ?_
   obtain ⟨hq, hm⟩ := hm
   refine op1 (index (e := 87) (k := .i64) T hS kr kr kr kr h103 kr kr hq.1 hq.2 ?_)
   intro A104 a h105 hS
   refine op1 (di T hS kr kr kr h105 kr kr ?_)
   intro v106 a hv hS
   subst hv
   refine eM T hS ⟨[(1, Pt 2 0), (4, I y102), (5, Pt 6 0)], [(2, (42, (cO o_ a1 c1))), (6, (87, (cR (gi o_.Rows y102))))]⟩ fun Z a w128 X129 hS hE hr => ?_
   replace hO := hO.m2 hE
   replace h103 := h103.m1 hE
   clear hE hr
   refine ba ?_
   refine rPb T hS [(1, Pt 2 0), (4, I y102), (5, Pt 6 0), (69, B ((((decide (((gi o_.Rows y102).State) < 0)) || (decide (((gi o_.Rows y102).State) ≥ o_.ao))) || (decide (((gi o_.Rows y102).Next) < 0))) || (decide (((gi o_.Rows y102).Next) ≥ o_.ao))))] (sp := [51, 58, 63]) fun a hS => ?_
   refine aG hS (b := ((((decide (((gi o_.Rows y102).State) < 0)) || (decide (((gi o_.Rows y102).State) ≥ o_.ao))) || (decide (((gi o_.Rows y102).Next) < 0))) || (decide (((gi o_.Rows y102).Next) ≥ o_.ao)))) kr (fun hb => ?_) fun hb => ?_
   ·replace hm := hm.1 hb
    refine rP T hS ⟨[(2, I y102), (3, I 30)], []⟩ fun a hS => ?_
    refine aU ?_
    exact fin T hS hO (fun c => c) rfl (r := [.int .i64 y102, .int .i64 30]) kr (fun X' hM hC => ⟨(y102, 30), hm, rfl⟩)
   replace hm := hm.2 hb
   refine aJ (ba ?_)
   refine rPb T hS [(1, Pt 2 0), (4, I y102), (5, Pt 6 0), (80, B ((decide (((gi o_.Rows y102).Kind) < 0)) || (decide (((gi o_.Rows y102).Kind) ≥ o_.av))))] (sp := [74]) fun a hS => ?_
   refine aG hS (b := ((decide (((gi o_.Rows y102).Kind) < 0)) || (decide (((gi o_.Rows y102).Kind) ≥ o_.av)))) kr (fun hb => ?_) fun hb => ?_
   ·replace hm := hm.1 hb
    refine rP T hS ⟨[(2, I y102), (3, I 31)], []⟩ fun a hS => ?_
    refine aU ?_
    exact fin T hS hO (fun c => c) rfl (r := [.int .i64 y102, .int .i64 31]) kr (fun X' hM hC => ⟨(y102, 31), hm, rfl⟩)
   replace hm := hm.2 hb
   refine aJ (ba ?_)
   refine rPb T hS [(1, Pt 2 0), (4, I y102), (5, Pt 6 0), (89, B ((decide (((gi o_.Rows y102).Result) < 0)) || (decide (((gi o_.Rows y102).Result) > 1000000))))] (sp := [85]) fun a hS => ?_
   refine aG hS (b := ((decide (((gi o_.Rows y102).Result) < 0)) || (decide (((gi o_.Rows y102).Result) > 1000000)))) kr (fun hb => ?_) fun hb => ?_
   ·replace hm := hm.1 hb
    refine rP T hS ⟨[(2, I y102), (3, I 7)], []⟩ fun a hS => ?_
    refine aU ?_
    exact fin T hS hO (fun c => c) rfl (r := [.int .i64 y102, .int .i64 7]) kr (fun X' hM hC => ⟨(y102, 7), hm, rfl⟩)
   replace hm := hm.2 hb
   refine aJ ?_
   refine bU (fun a w => ∃ (Z : Nat -> Nat) (X : Nat -> Nat) (y107 : Bool), VC28_J2 Q I1 μ1 y102 y107 /\ St Try.f28.ntmps ⟨[(1, Pt 2 0), (4, I y102), (128, B y107)], [(2, (42, (cO o_ a1 c1)))]⟩ Z a w X /\ Old w0 X0 w X /\ RS aw w X a1 o_.Rows c1) ?_ ?_
   ·refine fj [2, 6] mixed hS ?_
    intro w109 X110 hS hE hD hH
    replace hO := hO.m2 hE
    replace h103 := h103.m1 hE
    refine tkc T [0, 1, 2] [2, 6] hS hH #[true, true, true, false, false, false, false, false, false, false, false, false, false, false, false, false, false, false, false, false, false, false, false, false, false, false, false, false, false, false, false, false, false, false, false, false, false, false] 35 [(1, Pt 2 0), (4, I y102), (5, Pt 6 0), (93, B (decide (y102 > 0)))] fun a hS => ?_
    rcases bft (decide (y102 > 0)) with hb | hb
    ·replace hS := hS.lit (t := 93) kr hb
     replace hm := hm.1 hb
     refine tkc T [3, 5, 10, 4, 6, 11] [2, 6] hS hH #[true, true, true, true, true, true, true, false, false, false, true, true, false, false, false, false, false, false, false, false, false, false, false, false, false, false, false, false, false, false, false, false, false, false, false, false, false, false] 29 [(1, Pt 2 0), (4, I y102), (5, Pt 6 0), (93, B true), (95, Sl a1 o_.Rows c1), (97, I (wR (y102 - 1))), (102, I ((gi o_.Rows y102).State))] fun a hS => ?_
     obtain ⟨hq, hm⟩ := hm
     refine cD (e := 87) (k := .i64) T 7 hS kr kr kr (by rfl) kr hH kr kr h103 kr kr hq.1 hq.2 ?_
     intro A111 a h112 hS
     have h112b := h112.here
     refine db (off := 0) (fsz := 1) (ft := 3) (TF := tI) (y := (gi o_.Rows (wR (y102 - 1))).State) 8 T hS kr kr kr (by rfl) kr hH kr h112 kr kr kr (fun cs h => kA h) ?_
     intro A113 a h114 hbl hS
     have h114b := h112b
     rw [← hbl] at h114b
     clear hbl
     refine dB T 9 hS kr kr kr (by rfl) kr hH kr h114 h114b rfl kr ?_
     intro v115 a hv hS
     cases hv
     refine tkc T [12, 13] [2, 6] hS hH #[true, true, true, true, true, true, true, true, true, true, true, true, true, true, false, false, false, false, false, false, false, false, false, false, false, false, false, false, false, false, false, false, false, false, false, false, false, false] 24 [(1, Pt 2 0), (4, I y102), (5, Pt 6 0), (93, B true), (104, B (decide (((gi o_.Rows (wR (y102 - 1))).State) > ((gi o_.Rows y102).State))))] fun a hS => ?_
     rcases bft (decide (((gi o_.Rows (wR (y102 - 1))).State) > ((gi o_.Rows y102).State))) with hb | hb
     ·replace hS := hS.lit (t := 104) kr hb
      replace hm := hm.1 hb
      refine tkc T [14, 16, 21, 15, 17, 22, 18, 19, 20, 23, 24, 25, 27, 32, 26, 28, 33, 29, 30, 31, 34, 35, 36, 37] [2, 6] hS hH (tts 38) 0 [(1, Pt 2 0), (4, I y102), (128, B true)] fun a hS => ?_
      refine aM kr ?_
      replace hS := hS.sl ⟨[(1, Pt 2 0), (4, I y102), (128, B true)], [(2, (42, (cO o_ a1 c1)))]⟩
      exact ⟨Z, _, true, hm, hS.sl _, hO, h103⟩
     replace hS := hS.lit (t := 104) kr hb
     replace hm := hm.2 hb
     refine tkc T [14, 16, 21, 15, 17, 22] [2, 6] hS hH #[true, true, true, true, true, true, true, true, true, true, true, true, true, true, true, true, true, true, false, false, false, true, true, false, false, false, false, false, false, false, false, false, false, false, false, false, false, false] 18 [(1, Pt 2 0), (4, I y102), (5, Pt 6 0), (93, B true), (104, B false), (106, Sl a1 o_.Rows c1), (108, I (wR (y102 - 1))), (113, I ((gi o_.Rows y102).State))] fun a hS => ?_
     obtain ⟨hq, hm⟩ := hm
     refine cD (e := 87) (k := .i64) T 18 hS kr kr kr (by rfl) kr hH kr kr h103 kr kr hq.1 hq.2 ?_
     intro A116 a h117 hS
     have h117b := h117.here
     refine db (off := 0) (fsz := 1) (ft := 3) (TF := tI) (y := (gi o_.Rows (wR (y102 - 1))).State) 19 T hS kr kr kr (by rfl) kr hH kr h117 kr kr kr (fun cs h => kA h) ?_
     intro A118 a h119 hbl hS
     have h119b := h117b
     rw [← hbl] at h119b
     clear hbl
     refine dB T 20 hS kr kr kr (by rfl) kr hH kr h119 h119b rfl kr ?_
     intro v120 a hv hS
     cases hv
     refine tkc T [23, 24] [2, 6] hS hH #[true, true, true, true, true, true, true, true, true, true, true, true, true, true, true, true, true, true, true, true, true, true, true, true, true, false, false, false, false, false, false, false, false, false, false, false, false, false] 13 [(1, Pt 2 0), (4, I y102), (5, Pt 6 0), (93, B true), (104, B false), (115, B (((gi o_.Rows (wR (y102 - 1))).State) == ((gi o_.Rows y102).State)))] fun a hS => ?_
     rcases bft (((gi o_.Rows (wR (y102 - 1))).State) == ((gi o_.Rows y102).State)) with hb | hb
     ·replace hS := hS.lit (t := 115) kr hb
      replace hm := hm.1 hb
      refine tkc T [25, 27, 32, 26, 28, 33] [2, 6] hS hH #[true, true, true, true, true, true, true, true, true, true, true, true, true, true, true, true, true, true, true, true, true, true, true, true, true, true, true, true, true, false, false, false, true, true, false, false, false, false] 7 [(1, Pt 2 0), (4, I y102), (93, B true), (104, B false), (115, B true), (117, Sl a1 o_.Rows c1), (119, I (wR (y102 - 1))), (124, I ((gi o_.Rows y102).Kind))] fun a hS => ?_
      obtain ⟨hq, hm⟩ := hm
      refine cD (e := 87) (k := .i64) T 29 hS kr kr kr (by rfl) kr hH kr kr h103 kr kr hq.1 hq.2 ?_
      intro A121 a h122 hS
      have h122b := h122.here
      refine db (off := 1) (fsz := 1) (ft := 3) (TF := tI) (y := (gi o_.Rows (wR (y102 - 1))).Kind) 30 T hS kr kr kr (by rfl) kr hH kr h122 kr kr kr (fun cs h => mY h) ?_
      intro A123 a h124 hbl hS
      have h124b := h122b
      rw [← hbl] at h124b
      clear hbl
      refine dB T 31 hS kr kr kr (by rfl) kr hH kr h124 h124b rfl kr ?_
      intro v125 a hv hS
      cases hv
      refine tkc T [34, 35, 36, 37] [2, 6] hS hH (tts 38) 0 [(1, Pt 2 0), (4, I y102), (128, B (decide (((gi o_.Rows (wR (y102 - 1))).Kind) ≥ ((gi o_.Rows y102).Kind))))] fun a hS => ?_
      refine aM kr ?_
      replace hS := hS.sl ⟨[(1, Pt 2 0), (4, I y102), (128, B (decide (((gi o_.Rows (wR (y102 - 1))).Kind) ≥ ((gi o_.Rows y102).Kind))))], [(2, (42, (cO o_ a1 c1)))]⟩
      exact ⟨Z, _, decide (((gi o_.Rows (wR (y102 - 1))).Kind) ≥ ((gi o_.Rows y102).Kind)), hm, hS.sl _, hO, h103⟩
     replace hS := hS.lit (t := 115) kr hb
     replace hm := hm.2 hb
     refine tkc T [25, 27, 32, 26, 28, 33, 29, 30, 31, 34, 35, 36, 37] [2, 6] hS hH (tts 38) 0 [(1, Pt 2 0), (4, I y102), (128, B false)] fun a hS => ?_
     refine aM kr ?_
     replace hS := hS.sl ⟨[(1, Pt 2 0), (4, I y102), (128, B false)], [(2, (42, (cO o_ a1 c1)))]⟩
     exact ⟨Z, _, false, hm, hS.sl _, hO, h103⟩
    replace hS := hS.lit (t := 93) kr hb
    replace hm := hm.2 hb
    refine tkc T [3, 5, 10, 4, 6, 11, 7, 8, 9, 12, 13, 14, 16, 21, 15, 17, 22, 18, 19, 20, 23, 24, 25, 27, 32, 26, 28, 33, 29, 30, 31, 34, 35, 36, 37] [2, 6] hS hH (tts 38) 0 [(1, Pt 2 0), (4, I y102), (128, B false)] fun a hS => ?_
    refine aM kr ?_
    replace hS := hS.sl ⟨[(1, Pt 2 0), (4, I y102), (128, B false)], [(2, (42, (cO o_ a1 c1)))]⟩
    exact ⟨Z, _, false, hm, hS.sl _, hO, h103⟩
   rintro a w127 ⟨Z, X126, y107, hm, hS, hO, h108⟩
   unfold VC28_J2 at hm
   refine aG hS (b := y107) kr (fun hb => ?_) fun hb => ?_
   ·replace hm := hm.1 hb
    refine rP T hS ⟨[(2, I y102), (3, I 32)], []⟩ fun a hS => ?_
    refine aU ?_
    exact fin T hS hO (fun c => c) rfl (r := [.int .i64 y102, .int .i64 32]) kr (fun X' hM hC => ⟨(y102, 32), hm, rfl⟩)
   replace hm := hm.2 hb
   refine aJ ?_
   refine region (ePb T hS [(1, Pt 2 0), (4, I (wR (y102 + 1)))] fun a hS => ?_)
   exact ⟨wR (y102 + 1), ⟨Z, _, hm.1, hS.sl _, hO, h108⟩, hm.2⟩
  replace hm := hm.2 hb
  refine b0 (by rfl) ?_
  exact ⟨Z, _, hm, hS.sl _, hO, h103⟩
 rintro a w133 ⟨Z, X132, hm, hS, hO, h101⟩
 unfold VC28_J1 at hm
 refine rP T hS ⟨[(2, I (lN o_.Rows)), (3, I 0)], []⟩ fun a hS => ?_
 refine aU ?_
 exact fin T hS hO (fun c => c) rfl (r := [.int .i64 (lN o_.Rows), .int .i64 0]) kr (fun X' hM hC => ⟨((lN o_.Rows), 0), hm, rfl⟩)
theorem C28 (v : ∀ (o_ : ai), VC28 o_ (fun r => r = b5 o_)) : S28 := by
 intro w X o_ a1 c1   h1
 refine (W28 w X o_ a1 c1   _ (v o_) h1).mono ?_
 rintro _ _ _ _ ⟨r, rfl, h⟩
 exact h
theorem W97 (w0) (X0) (i_ : Int) (cap1 : List Bool) (a1) (c1) (b1) (i1) (Q : Bool -> Prop) (hm : VC97 i_ cap1 Q) (h1 : RS cB w0 X0 a1 cap1 c1) (hc1 : Cell w0 X0 b1 i1 141 [.slice a1 cap1.length c1]) (hA : cH [i1]) :
  Ret Try.prog 97 #[.int .i64 i_, .pointer (some ⟨b1, 0, none⟩)] (pR [i1]) w0 X0 (fun w X' v => ∃ r, Q r /\ v = .bool r /\ Cell w X' b1 i1 141 [.slice a1 cap1.length c1]) := by
 unfold VC97 at hm
 replace hm := hm (h1.sm kr)
 refine dI Try.func97 rfl (cy [(i1, 901)]) (fun id => (bif Nat.beq id 901 then b1 else 0)) (args := [I i_, Pt 901 0]) (bxs := [(901, (141, [Sl a1 cap1 c1]))]) kr rfl (a8.cons kr (hc1.map (bn 0 hA.1 rfl)) a8.nil) (dA (fun q hq => (hA.2 q.1 (List.mem_map.2 ⟨q, hq, rfl⟩)).1)) ?_
 intro a hS hO hM
 have hP : Pin [(901, b1)] (fun id => (bif Nat.beq id 901 then b1 else 0)) := by intro q hq; simp at hq; rcases hq with rfl <;> rfl
 generalize (fun id => (bif Nat.beq id 901 then b1 else 0)) = Z at hS hP
 clear hc1
 replace h1 := h1.m0 hM
 refine rPb T hS [(0, I i_), (1, Pt 901 0)] fun a hS => ?_
 refine bb ?_
 refine oPb T hS 5 [(0, I i_), (1, Pt 901 0), (8, B (decide (i_ < (lN cap1))))] fun a hS => ?_
 rcases bft (decide (i_ < (lN cap1))) with hb | hb
 ·replace hS := hS.lit (t := 8) kr hb
  replace hm := hm.1 hb
  refine oPb T hS 2 [(8, B true), (9, Sl a1 cap1 c1), (10, I i_)] fun a hS => ?_
  obtain ⟨hq, hm⟩ := hm
  refine op1 (index (e := 4) (k := .i64) T hS kr kr kr kr h1 kr kr hq.1 hq.2 ?_)
  intro A101 a h102 hS
  refine op1 (ec T hS kr kr kr h102 rfl kr ?_)
  intro v103 a hv hS
  cases hv
  refine ePb T hS [(3, B (gi cap1 i_))] fun a hS => ?_
  refine aU ?_
  exact eA T hS hO (fun c h => bu kr h) (fun c h => bw (l := [(i1, 901)]) h) (bq [(i1, 901)]) rfl (r := [.bool (gi cap1 i_)]) kr (fun X' hM hC => ⟨(gi cap1 i_), hm, rfl, ((hS.cell (id := 901) (t := 141) (cs := [Sl a1 cap1 c1]) kr).out (f := (bq [(i1, 901)])) hC kr kr (hP.at 0 rfl))⟩)
 replace hS := hS.lit (t := 8) kr hb
 replace hm := hm.2 hb
 refine ePb T hS [(3, B false)] fun a hS => ?_
 refine aU ?_
 exact eA T hS hO (fun c h => bu kr h) (fun c h => bw (l := [(i1, 901)]) h) (bq [(i1, 901)]) rfl (r := [.bool false]) kr (fun X' hM hC => ⟨false, hm, rfl, ((hS.cell (id := 901) (t := 141) (cs := [Sl a1 cap1 c1]) kr).out (f := (bq [(i1, 901)])) hC kr kr (hP.at 0 rfl))⟩)
theorem C97 (v : ∀ (i_ : Int) (cap1 : List Bool), lY i_ cap1 -> VC97 i_ cap1 (fun r => r = dp i_ cap1)) : S97 := by
 intro w X i_ cap1 a1 c1  b1 i1 hp h1 hc1 hA
 refine (W97 w X i_ cap1 a1 c1  b1 i1 _ (v i_ cap1 hp) h1 hc1 hA).mono ?_
 rintro _ _ _ _ ⟨r, rfl, h⟩
 exact h
theorem W94 (k57 : S57) (k97 : S97) (w0) (X0) (l_ : List aa) (done : List Bool) (a1) (c1) (a2) (c2) (Q : (List Int) -> Prop) (hm : VC94 l_ done Q) (h1 : RS aq w0 X0 a1 l_ c1) (h2 : RS cB w0 X0 a2 done c2) :
  Ret Try.prog 94 #[.slice a1 l_.length c1, .slice a2 done.length c2] aF w0 X0 (fun w X' v => ∃ r, Q r /\ ∃ ra1 rc1, v = .slice ra1 r.length rc1 /\ RS tI w X' ra1 r rc1) := by
 unfold VC94 at hm
 replace hm := hm (h1.sm kr)
 replace hm := hm (h2.sm kr)
 refine enter Try.func94 rfl (vals := [.slice a1 l_.length c1, .slice a2 done.length c2]) kr ?_
 intro Z a hS hO hM
 replace h1 := h1.m0 hM
 replace h2 := h2.m0 hM
 refine rM T hS ⟨[(0, Sl a1 l_ c1), (3, Pt 4 0)], [(4, (141, [Sl a2 done c2]))]⟩ fun Z a w194 X195 hS hE hr => ?_
 replace hO := hO.m2 hE
 replace h1 := h1.m1 hE
 replace h2 := h2.m1 hE
 clear hE hr
 refine rPb T hS [(0, Sl a1 l_ c1), (5, .f (.func 97) [] [.p 4 0])] fun a hS => ?_
 refine rPb T hS [(0, Sl a1 l_ c1), (5, .f (.func 97) [] [.p 4 0]), (6, V (.slice none 0 0))] fun a hS => ?_
 refine bU (fun a w => ∃ (Z : Nat -> Nat) (X : Nat -> Nat) (y101 : List Int) (a102 : Option Addr) (c103 : Nat), VC94_J1 Q y101 /\ St Try.f94.ntmps ⟨[(6, Sl a102 y101 c103)], []⟩ Z a w X /\ Old w0 X0 w X /\ OS tI 3 w X 1005 a102 y101 c103) ?_ ?_
 ·refine rPb T hS [(0, Sl a1 l_ c1), (5, .f (.func 97) [] [.p 4 0]), (6, V (.slice none 0 0)), (13, Sl a1 l_ c1), (14, I (lN l_)), (15, I 0)] fun a hS => ?_
  refine aO ?_
  obtain ⟨I1, μ1, hm0, hm⟩ := hm
  refine b8 (σ := (List Int) × Int) (fun s a w => ∃ Z X a109 c110, I1 s.1 s.2 /\ St Try.f94.ntmps ⟨[(0, Sl a1 l_ c1), (5, .f (.func 97) [] [.p 4 0]), (6, Sl a109 s.1 c110), (13, Sl a1 l_ c1), (14, I (lN l_)), (15, I s.2)], [(4, (141, [Sl a2 done c2]))]⟩ Z a w X /\ Old w0 X0 w X /\ RS aq w X a1 l_ c1 /\ OS tI 3 w X 1005 a109 s.1 c110 /\ RS aq w X a1 l_ c1 /\ RS cB w X a2 done c2) (fun s => μ1 s.1 s.2) (⟨[], 0⟩) ?_ ?_
  ·exact ⟨Z, _, none, 0, hm0, hS.sl _, hO, h1, (OS.nil _ _ _ _ _), h1, h2⟩
  rintro ⟨y108, y113⟩ a w191 ⟨Z, X190, a109, c110, hI, hS, hO, h107, h111, h112, h114⟩
  replace hm := hm y108 y113 hI
  clear hI hm0
  refine rPb T hS [(0, Sl a1 l_ c1), (5, .f (.func 97) [] [.p 4 0]), (6, Sl a109 y108 c110), (13, Sl a1 l_ c1), (14, I (lN l_)), (15, I y113), (16, B (decide (y113 < (lN l_))))] fun a hS => ?_
  refine ba ?_
  refine aG hS (b := decide (y113 < (lN l_))) kr (fun hb => ?_) fun hb => ?_
  ·replace hm := hm.1 hb
   refine aJ ?_
   refine bU (fun a w => ∃ (Z : Nat -> Nat) (X : Nat -> Nat) (y116 : List Int) (a117 : Option Addr) (c118 : Nat), VC94_J2 I1 μ1 y108 y113 y116 /\ St Try.f94.ntmps ⟨[(0, Sl a1 l_ c1), (5, .f (.func 97) [] [.p 4 0]), (6, Sl a117 y116 c118), (13, Sl a1 l_ c1), (14, I (lN l_)), (15, I y113)], [(4, (141, [Sl a2 done c2]))]⟩ Z a w X /\ Old w0 X0 w X /\ RS aq w X a1 l_ c1 /\ OS tI 3 w X 1005 a117 y116 c118 /\ RS aq w X a1 l_ c1 /\ RS cB w X a2 done c2) ?_ ?_
   ·refine aO ?_
    refine bb ?_
    refine oPb T hS 1 [(0, Sl a1 l_ c1), (5, .f (.func 97) [] [.p 4 0]), (6, Sl a109 y108 c110), (13, Sl a1 l_ c1), (14, I (lN l_)), (15, I y113), (17, I y113)] fun a hS => ?_
    obtain ⟨hq, hm⟩ := hm
    refine op1 (index (e := 80) (k := .i64) T hS kr kr kr kr h112 kr kr hq.1 hq.2 ?_)
    intro A122 a h123 hS
    refine op1 (di T hS kr kr kr h123 kr kr ?_)
    intro v124 a hv hS
    subst hv
    refine eM T hS ⟨[(0, Sl a1 l_ c1), (5, .f (.func 97) [] [.p 4 0]), (6, Sl a109 y108 c110), (7, I y113), (8, Pt 9 0), (13, Sl a1 l_ c1), (14, I (lN l_)), (15, I y113)], [(4, (141, [Sl a2 done c2])), (9, (80, (cP (gi l_ y113))))]⟩ fun Z a w186 X187 hS hE hr => ?_
    replace hO := hO.m2 hE
    replace h107 := h107.m1 hE
    replace h111 := h111.m2 hE
    replace h112 := h112.m1 hE
    replace h114 := h114.m1 hE
    clear hE hr
    refine bb ?_
    refine oPb T hS 2 [(0, Sl a1 l_ c1), (5, .f (.func 97) [] [.p 4 0]), (6, Sl a109 y108 c110), (7, I y113), (8, Pt 9 0), (13, Sl a1 l_ c1), (14, I (lN l_)), (15, I y113), (20, .f (.func 97) [] [.p 4 0]), (21, I y113)] fun a hS => ?_
    obtain ⟨hq, hm⟩ := hm
    refine op1 (fR (fi := []) (cp := [.p 4 0]) hS kr kr hb97 kr kr (k97 _ _ y113 done a2 c2 (Z 4) 4 hq h114 (hS.cell (id := 4) (t := 141) (cs := [Sl a2 done c2]) kr) ⟨by decide, by decide⟩) ?_)
    intro v125 a w126 X127 hE hp hS
    replace hO := hO.m2 hE
    replace h107 := h107.m1 hE
    replace h111 := h111.m2 hE
    replace h112 := h112.m1 hE
    replace h114 := h114.m1 hE
    obtain ⟨hp, hc129⟩ := hp
    obtain ⟨r128, hr⟩ : ∃ r, dp y113 done = r := ⟨_, rfl⟩
    replace hm := hm r128 hr
    rw [hr] at hp
    clear hr
    subst hp
    replace hS := hS.bQ (id := 4) (t := 141) (cs := [Sl a2 done c2]) kr hc129
    clear hc129
    refine ePb T hS [(0, Sl a1 l_ c1), (5, .f (.func 97) [] [.p 4 0]), (6, Sl a109 y108 c110), (7, I y113), (8, Pt 9 0), (9, B (!r128)), (13, Sl a1 l_ c1), (14, I (lN l_)), (15, I y113)] fun a hS => ?_
    refine bU (fun a w => ∃ (Z : Nat -> Nat) (X : Nat -> Nat) (y131 : List Int) (y135 : Bool) (a132 : Option Addr) (c133 : Nat), VC94_J3 I1 μ1 y108 y113 y131 y135 /\ St Try.f94.ntmps ⟨[(0, Sl a1 l_ c1), (5, .f (.func 97) [] [.p 4 0]), (6, Sl a132 y131 c133), (7, I y113), (9, B y135), (13, Sl a1 l_ c1), (14, I (lN l_)), (15, I y113)], [(4, (141, [Sl a2 done c2]))]⟩ Z a w X /\ Old w0 X0 w X /\ RS aq w X a1 l_ c1 /\ OS tI 3 w X 1005 a132 y131 c133 /\ RS aq w X a1 l_ c1 /\ RS cB w X a2 done c2) ?_ ?_
    ·refine rPb T hS [(0, Sl a1 l_ c1), (5, .f (.func 97) [] [.p 4 0]), (6, Sl a109 y108 c110), (7, I y113), (8, Pt 9 0), (9, B (!r128)), (13, Sl a1 l_ c1), (14, I (lN l_)), (15, I y113), (24, Sl a1 l_ c1), (25, I (lN l_)), (26, I 0)] fun a hS => ?_
     refine aO ?_
     obtain ⟨I2, μ2, hm0, hm⟩ := hm
     refine b8 (σ := (List Int) × Bool × Int) (fun s a w => ∃ Z X a149 c150, I2 s.1 s.2.1 s.2.2 /\ St Try.f94.ntmps ⟨[(0, Sl a1 l_ c1), (5, .f (.func 97) [] [.p 4 0]), (6, Sl a149 s.1 c150), (7, I y113), (8, Pt 9 0), (9, B s.2.1), (13, Sl a1 l_ c1), (14, I (lN l_)), (15, I y113), (24, Sl a1 l_ c1), (25, I (lN l_)), (26, I s.2.2)], [(4, (141, [Sl a2 done c2])), (9, (80, (cP (gi l_ y113))))]⟩ Z a w X /\ Old w0 X0 w X /\ RS aq w X a1 l_ c1 /\ OS tI 3 w X 1005 a149 s.1 c150 /\ RS aq w X a1 l_ c1 /\ RS aq w X a1 l_ c1 /\ RS cB w X a2 done c2) (fun s => μ2 s.1 s.2.1 s.2.2) (⟨y108, (!r128), 0⟩) ?_ ?_
     ·exact ⟨Z, _, a109, c110, hm0, hS.sl _, hO, h107, h111, h112, h107, h114⟩
     rintro ⟨y148, y152, y155⟩ a w183 ⟨Z, X182, a149, c150, hI, hS, hO, h147, h151, h153, h154, h156⟩
     replace hm := hm y148 y152 y155 hI
     clear hI hm0
     refine rPb T hS [(0, Sl a1 l_ c1), (5, .f (.func 97) [] [.p 4 0]), (6, Sl a149 y148 c150), (7, I y113), (8, Pt 9 0), (9, B y152), (13, Sl a1 l_ c1), (14, I (lN l_)), (15, I y113), (24, Sl a1 l_ c1), (25, I (lN l_)), (26, I y155), (27, B (decide (y155 < (lN l_))))] fun a hS => ?_
     refine ba ?_
     refine aG hS (b := decide (y155 < (lN l_))) kr (fun hb => ?_) fun hb => ?_
     ·replace hm := hm.1 hb
      refine aJ ?_
      refine bU (fun a w => ∃ (Z : Nat -> Nat) (X : Nat -> Nat) (y158 : List Int) (y162 : Bool) (a159 : Option Addr) (c160 : Nat), VC94_J4 I2 μ2 y148 y152 y155 y158 y162 /\ St Try.f94.ntmps ⟨[(0, Sl a1 l_ c1), (5, .f (.func 97) [] [.p 4 0]), (6, Sl a159 y158 c160), (7, I y113), (8, Pt 9 0), (9, B y162), (13, Sl a1 l_ c1), (14, I (lN l_)), (15, I y113), (24, Sl a1 l_ c1), (25, I (lN l_)), (26, I y155)], [(4, (141, [Sl a2 done c2])), (9, (80, (cP (gi l_ y113))))]⟩ Z a w X /\ Old w0 X0 w X /\ RS aq w X a1 l_ c1 /\ OS tI 3 w X 1005 a159 y158 c160 /\ RS aq w X a1 l_ c1 /\ RS aq w X a1 l_ c1 /\ RS cB w X a2 done c2) ?_ ?_
      ·refine aO ?_
       refine bb ?_
       refine oPb T hS 1 [(0, Sl a1 l_ c1), (5, .f (.func 97) [] [.p 4 0]), (6, Sl a149 y148 c150), (7, I y113), (8, Pt 9 0), (9, B y152), (13, Sl a1 l_ c1), (14, I (lN l_)), (15, I y113), (24, Sl a1 l_ c1), (25, I (lN l_)), (26, I y155), (28, I y155)] fun a hS => ?_
       obtain ⟨hq, hm⟩ := hm
       refine op1 (index (e := 80) (k := .i64) T hS kr kr kr kr h154 kr kr hq.1 hq.2 ?_)
       intro A166 a h167 hS
       refine op1 (di T hS kr kr kr h167 kr kr ?_)
       intro v168 a hv hS
       subst hv
       refine eM T hS ⟨[(0, Sl a1 l_ c1), (5, .f (.func 97) [] [.p 4 0]), (6, Sl a149 y148 c150), (7, I y113), (8, Pt 9 0), (9, B y152), (10, I y155), (11, Pt 12 0), (13, Sl a1 l_ c1), (14, I (lN l_)), (15, I y113), (24, Sl a1 l_ c1), (25, I (lN l_)), (26, I y155)], [(4, (141, [Sl a2 done c2])), (9, (80, (cP (gi l_ y113)))), (12, (80, (cP (gi l_ y155))))]⟩ fun Z a w178 X179 hS hE hr => ?_
       replace hO := hO.m2 hE
       replace h147 := h147.m1 hE
       replace h151 := h151.m2 hE
       replace h153 := h153.m1 hE
       replace h154 := h154.m1 hE
       replace h156 := h156.m1 hE
       clear hE hr
       refine region ?_
       refine oPb T hS 2 [(0, Sl a1 l_ c1), (5, .f (.func 97) [] [.p 4 0]), (6, Sl a149 y148 c150), (7, I y113), (8, Pt 9 0), (9, B y152), (10, I y155), (11, Pt 12 0), (13, Sl a1 l_ c1), (14, I (lN l_)), (15, I y113), (24, Sl a1 l_ c1), (25, I (lN l_)), (26, I y155), (32, B y152)] fun a hS => ?_
       rcases bft y152 with hb | hb
       ·replace hS := hS.lit (t := 32) kr hb
        replace hm := hm.1 hb
        refine oPb T hS 2 [(0, Sl a1 l_ c1), (5, .f (.func 97) [] [.p 4 0]), (6, Sl a149 y148 c150), (7, I y113), (8, Pt 9 0), (9, B y152), (11, Pt 12 0), (13, Sl a1 l_ c1), (14, I (lN l_)), (15, I y113), (24, Sl a1 l_ c1), (25, I (lN l_)), (26, I y155), (32, B true), (33, .f (.func 97) [] [.p 4 0]), (34, I y155)] fun a hS => ?_
        obtain ⟨hq, hm⟩ := hm
        refine op1 (fR (fi := []) (cp := [.p 4 0]) hS kr kr hb97 kr kr (k97 _ _ y155 done a2 c2 (Z 4) 4 hq h156 (hS.cell (id := 4) (t := 141) (cs := [Sl a2 done c2]) kr) ⟨by decide, by decide⟩) ?_)
        intro v169 a w170 X171 hE hp hS
        replace hO := hO.m2 hE
        replace h147 := h147.m1 hE
        replace h151 := h151.m2 hE
        replace h153 := h153.m1 hE
        replace h154 := h154.m1 hE
        replace h156 := h156.m1 hE
        obtain ⟨hp, hc173⟩ := hp
        obtain ⟨r172, hr⟩ : ∃ r, dp y155 done = r := ⟨_, rfl⟩
        replace hm := hm r172 hr
        rw [hr] at hp
        clear hr
        subst hp
        replace hS := hS.bQ (id := 4) (t := 141) (cs := [Sl a2 done c2]) kr hc173
        clear hc173
        refine oPb T hS 1 [(0, Sl a1 l_ c1), (5, .f (.func 97) [] [.p 4 0]), (6, Sl a149 y148 c150), (7, I y113), (8, Pt 9 0), (9, B y152), (11, Pt 12 0), (13, Sl a1 l_ c1), (14, I (lN l_)), (15, I y113), (24, Sl a1 l_ c1), (25, I (lN l_)), (26, I y155), (32, B true), (36, B r172)] fun a hS => ?_
        rcases bft r172 with hb | hb
        ·replace hS := hS.lit (t := 36) kr hb
         replace hm := hm.1 hb
         refine eP T hS ⟨[(0, Sl a1 l_ c1), (5, .f (.func 97) [] [.p 4 0]), (6, Sl a149 y148 c150), (7, I y113), (8, Pt 9 0), (9, B true), (13, Sl a1 l_ c1), (14, I (lN l_)), (15, I y113), (24, Sl a1 l_ c1), (25, I (lN l_)), (26, I y155)], [(4, (141, [Sl a2 done c2])), (9, (80, (cP (gi l_ y113))))]⟩ fun a hS => ?_
         exact ⟨Z, _, y148, true, a149, c150, hm, hS.sl _, hO, h147, h151, h153, h154, h156⟩
        replace hS := hS.lit (t := 36) kr hb
        replace hm := hm.2 hb
        refine oP T hS 2 ⟨[(0, Sl a1 l_ c1), (5, .f (.func 97) [] [.p 4 0]), (6, Sl a149 y148 c150), (7, I y113), (8, Pt 9 0), (9, B y152), (13, Sl a1 l_ c1), (14, I (lN l_)), (15, I y113), (24, Sl a1 l_ c1), (25, I (lN l_)), (26, I y155), (32, B true), (36, B false), (37, V (.agg #[.int .i64 ((gi l_ y155).ab), .int .i64 ((gi l_ y155).Kind), .int .i64 ((gi l_ y155).aA), .int .i64 ((gi l_ y155).End), .int .i64 ((gi l_ y155).Result)])), (38, V (.agg #[.int .i64 ((gi l_ y113).ab), .int .i64 ((gi l_ y113).Kind), .int .i64 ((gi l_ y113).aA), .int .i64 ((gi l_ y113).End), .int .i64 ((gi l_ y113).Result)]))], [(4, (141, [Sl a2 done c2])), (9, (80, (cP (gi l_ y113))))]⟩ fun a hS => ?_
        refine op1 (call hS kr kr hb57 kr (fun _ _ => rfl) (k57 _ _ (gi l_ y155) (gi l_ y113)) ?_)
        intro v174 a w175 X176 hE hp hS
        replace hO := hO.m2 hE
        replace h147 := h147.m1 hE
        replace h151 := h151.m2 hE
        replace h153 := h153.m1 hE
        replace h154 := h154.m1 hE
        replace h156 := h156.m1 hE
        obtain ⟨r177, hr⟩ : ∃ r, bF (gi l_ y155) (gi l_ y113) = r := ⟨_, rfl⟩
        replace hm := hm r177 hr
        rw [hr] at hp
        clear hr
        subst hp
        refine ePb T hS [(0, Sl a1 l_ c1), (5, .f (.func 97) [] [.p 4 0]), (6, Sl a149 y148 c150), (7, I y113), (8, Pt 9 0), (9, B (!r177)), (13, Sl a1 l_ c1), (14, I (lN l_)), (15, I y113), (24, Sl a1 l_ c1), (25, I (lN l_)), (26, I y155)] fun a hS => ?_
        exact ⟨Z, _, y148, (!r177), a149, c150, hm, hS.sl _, hO, h147, h151, h153, h154, h156⟩
       replace hS := hS.lit (t := 32) kr hb
       replace hm := hm.2 hb
       refine eP T hS ⟨[(0, Sl a1 l_ c1), (5, .f (.func 97) [] [.p 4 0]), (6, Sl a149 y148 c150), (7, I y113), (8, Pt 9 0), (9, B false), (13, Sl a1 l_ c1), (14, I (lN l_)), (15, I y113), (24, Sl a1 l_ c1), (25, I (lN l_)), (26, I y155)], [(4, (141, [Sl a2 done c2])), (9, (80, (cP (gi l_ y113))))]⟩ fun a hS => ?_
       exact ⟨Z, _, y148, false, a149, c150, hm, hS.sl _, hO, h147, h151, h153, h154, h156⟩
      rintro a w181 ⟨Z, X180, y158, y162, a159, c160, hm, hS, hO, h157, h161, h163, h164, h165⟩
      unfold VC94_J4 at hm
      refine region (ePb T hS [(0, Sl a1 l_ c1), (5, .f (.func 97) [] [.p 4 0]), (6, Sl a159 y158 c160), (7, I y113), (8, Pt 9 0), (9, B y162), (13, Sl a1 l_ c1), (14, I (lN l_)), (15, I y113), (24, Sl a1 l_ c1), (25, I (lN l_)), (26, I (wR (y155 + 1)))] fun a hS => ?_)
      exact ⟨⟨y158, y162, wR (y155 + 1)⟩, ⟨Z, _, a159, c160, hm.1, hS.sl _, hO, h157, h161, h163, h164, h165⟩, hm.2⟩
     replace hm := hm.2 hb
     refine b0 (by rfl) ?_
     exact ⟨Z, _, y148, y152, a149, c150, hm, hS.sl _, hO, h147, h151, h153, h156⟩
    rintro a w185 ⟨Z, X184, y131, y135, a132, c133, hm, hS, hO, h130, h134, h136, h137⟩
    unfold VC94_J3 at hm
    refine rPb T hS [(0, Sl a1 l_ c1), (5, .f (.func 97) [] [.p 4 0]), (6, Sl a132 y131 c133), (7, I y113), (13, Sl a1 l_ c1), (14, I (lN l_)), (15, I y113), (44, B y135)] fun a hS => ?_
    refine aG hS (b := y135) kr (fun hb => ?_) fun hb => ?_
    ·replace hm := hm.1 hb
     refine region ?_
     refine oPb T hS 2 [(0, Sl a1 l_ c1), (5, .f (.func 97) [] [.p 4 0]), (6, Sl a132 y131 c133), (13, Sl a1 l_ c1), (14, I (lN l_)), (15, I y113), (45, Sl a132 y131 c133), (46, I y113)] fun a hS => ?_
     refine op1 (lit (E := 3) (col := 0) (T := tI) (vals := [.int .i64 y113]) (ys := [y113]) T hS kr kr kr kr (by exact ⟨rfl, trivial⟩) rfl kr kr kr kr ?_)
     intro b138 a w139 X140 hE h141 hN hS
     clear hN
     replace hO := hO.m2 hE
     replace h130 := h130.m1 hE
     replace h134 := h134.m2 hE
     replace h136 := h136.m1 hE
     replace h137 := h137.m1 hE
     replace h141 := h141.rs0
     obtain ⟨hq, hm⟩ := hm
     obtain ⟨news, hN⟩ := h141.src
     refine op1 (append (E := 3) (T := tI) (col := 1005) (xs := y131) T hS kr kr kr kr h134 hN kr kr kr kr hq ?_)
     intro a145 c146 a w142 X143 hE h144 hS
     clear hq hN
     clear h134
     replace hO := hO.m2 hE
     replace h130 := h130.m1 hE
     replace h136 := h136.m1 hE
     replace h137 := h137.m1 hE
     replace h141 := h141.m1 hE
     refine ePb T hS [(0, Sl a1 l_ c1), (5, .f (.func 97) [] [.p 4 0]), (6, Sl a145 (y131 ++ [y113]) c146), (13, Sl a1 l_ c1), (14, I (lN l_)), (15, I y113)] fun a hS => ?_
     exact ⟨Z, _, y131 ++ [y113], a145, c146, hm, hS.sl _, hO, h130, h144, h136, h137⟩
    replace hm := hm.2 hb
    refine aJ ?_
    exact ⟨Z, _, y131, a132, c133, hm, hS.sl _, hO, h130, h134, h136, h137⟩
   rintro a w189 ⟨Z, X188, y116, a117, c118, hm, hS, hO, h115, h119, h120, h121⟩
   unfold VC94_J2 at hm
   refine region (ePb T hS [(0, Sl a1 l_ c1), (5, .f (.func 97) [] [.p 4 0]), (6, Sl a117 y116 c118), (13, Sl a1 l_ c1), (14, I (lN l_)), (15, I (wR (y113 + 1)))] fun a hS => ?_)
   exact ⟨⟨y116, wR (y113 + 1)⟩, ⟨Z, _, a117, c118, hm.1, hS.sl _, hO, h115, h119, h120, h121⟩, hm.2⟩
  replace hm := hm.2 hb
  refine b0 (by rfl) ?_
  exact ⟨Z, _, y108, a109, c110, hm, hS.sl _, hO, h111⟩
 rintro a w193 ⟨Z, X192, y101, a102, c103, hm, hS, hO, h104⟩
 unfold VC94_J1 at hm
 refine rPb T hS [(4, Sl a102 y101 c103)] fun a hS => ?_
 refine aU ?_
 obtain ⟨X105, hE, hF⟩ := h104.freeze (by decide)
 replace hS := hS.ev hE (bW kr)
 replace hO := hO.m2 hE
 have h106 := hF; clear hE hF
 exact fin T hS hO (fun c => c) rfl (r := [.slice a102 y101.length c103]) kr (fun X' hM hC => ⟨y101, hm, a102, c103, rfl, h106.m0 hM⟩)
theorem C94 (k57 : S57) (k97 : S97) (v : ∀ (l_ : List aa) (done : List Bool), nv l_ done -> VC94 l_ done (fun r => r = dk l_ done)) : S94 := by
 intro w X l_ done a1 c1 a2 c2   hp h1 h2
 refine (W94 k57 k97 w X l_ done a1 c1 a2 c2   _ (v l_ done hp) h1 h2).mono ?_
 rintro _ _ _ _ ⟨r, rfl, h⟩
 exact h
end Go.Proofs.Yteahldlmkheleaa
