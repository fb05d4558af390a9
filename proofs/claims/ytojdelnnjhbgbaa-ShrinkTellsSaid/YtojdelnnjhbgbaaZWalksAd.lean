/- Walks: each function returns what its condition asks. Condition: the contracts of its callees, handed in. -/
import Derived.Test.YtojdelnnjhbgbaaZWalksS
set_option linter.all false
namespace Go.Proofs.Ytojdelnnjhbgbaa
open Go Go.Sv
abbrev zAd0 (col1 : Nat) : Nat -> Nat := fun c => (bif Nat.beq c 2 then col1 else c)
set_option maxHeartbeats 1000000
theorem W23 (k37 : S37) (w0) (X0) (l_ : List Api_Event) (a1) (c1) (Q : Int × Int -> Prop) (hm : VC23 l_ Q) (h1 : RS tApi_Event w0 X0 a1 l_ c1) :
  Ret Try.prog 23 #[.slice a1 l_.length c1] xnone w0 X0 (fun w X' v => ∃ r, Q r /\ v = .tuple #[.int .i64 r.1, .int .i64 r.2]) := by
 unfold VC23 at hm
 replace hm := hm (h1.sm kr)
 refine enter Try.func23 rfl (vals := [.slice a1 l_.length c1]) kr ?_
 intro Z a hS hO hM
 replace h1 := h1.m0 hM
 refine rPb T hS [(0, Sl a1 l_ c1)] fun a hS => ?_
 refine wseq ?_
 refine rPb T hS [(0, Sl a1 l_ c1), (10, B (decide ((lN l_) > 10000)))] fun a hS => ?_
 refine wcond hS (b := decide ((lN l_) > 10000)) kr (fun hb => ?_) fun hb => ?_
 ·replace hm := hm.1 hb
  refine rPb T hS [(2, I 0), (3, I 3)] fun a hS => ?_
  refine wret ?_
  exact fin T hS hO (fun c => c) rfl (r := [.int .i64 0, .int .i64 3]) kr (fun X' hM hC => ⟨(0, 3), hm, rfl⟩)
 replace hm := hm.2 hb
 refine wskip ?_
 refine regO ?_
 refine op1 (mkmap kI tI false 1012 hS kr kr ?_)
 intro r101 a w102 X103 hE h104 hS
 replace hO := hO.m2 hE
 replace h1 := h1.m1 hE
 refine ePb T hS [(0, Sl a1 l_ c1), (4, V (.map (some r101)))] fun a hS => ?_
 refine wcut (fun a w => ∃ Z X, VC23_J1 l_ Q /\ St Try.f23.ntmps ⟨[(0, Sl a1 l_ c1)], []⟩ Z a w X /\ Old w0 X0 w X /\ RS tApi_Event w X a1 l_ c1) ?_ ?_
 ·refine rPb T hS [(0, Sl a1 l_ c1), (4, V (.map (some r101))), (12, Sl a1 l_ c1), (13, I (lN l_)), (14, I 0)] fun a hS => ?_
  refine wblock ?_
  obtain ⟨I1, μ1, hm0, hm⟩ := hm
  refine wloop (σ := (List (Int × Int)) × Int) (fun s a w => ∃ Z X, I1 s.1 s.2 /\ St Try.f23.ntmps ⟨[(0, Sl a1 l_ c1), (4, V (.map (some r101))), (12, Sl a1 l_ c1), (13, I (lN l_)), (14, I s.2)], []⟩ Z a w X /\ Old w0 X0 w X /\ RS tApi_Event w X a1 l_ c1 /\ OM kI tI false w X 1012 r101 s.1 /\ RS tApi_Event w X a1 l_ c1) (fun s => μ1 s.1 s.2) (⟨([] : List (Int × Int)), 0⟩) ?_ ?_
  ·exact ⟨Z, _, hm0, hS.sl _, hO, h1, h104, h1⟩
  rintro ⟨y107, y110⟩ a w124 ⟨Z, X123, hI, hS, hO, h106, h108, h109⟩
  replace hm := hm y107 y110 hI
  clear hI hm0
  refine rPb T hS [(0, Sl a1 l_ c1), (4, V (.map (some r101))), (12, Sl a1 l_ c1), (13, I (lN l_)), (14, I y110), (15, B (decide (y110 < (lN l_))))] fun a hS => ?_
  refine wseq ?_
  refine wcond hS (b := decide (y110 < (lN l_))) kr (fun hb => ?_) fun hb => ?_
  ·replace hm := hm.1 hb
   refine wskip (wseq ?_)
   refine wblock ?_
   refine regO ?_
   refine oPb T hS 1 [(0, Sl a1 l_ c1), (4, V (.map (some r101))), (12, Sl a1 l_ c1), (13, I (lN l_)), (14, I y110), (16, I y110)] fun a hS => ?_
   obtain ⟨hq, hm⟩ := hm
   refine op1 (index (e := 54) (k := .i64) T hS kr kr kr kr h109 kr kr hq.1 hq.2 ?_)
   intro A111 a h112 hS
   refine op1 (loadA T hS kr kr kr h112 kr kr ?_)
   intro v113 a hv hS
   subst hv
   refine eM T hS ⟨[(0, Sl a1 l_ c1), (4, V (.map (some r101))), (5, I y110), (6, Pt 7 0), (12, Sl a1 l_ c1), (13, I (lN l_)), (14, I y110)], [(7, (54, (cE (gi l_ y110))))]⟩ fun Z a w121 X122 hS hE hr => ?_
   replace hO := hO.m2 hE
   replace h106 := h106.m1 hE
   replace h108 := h108.m2 hE
   replace h109 := h109.m1 hE
   clear hE hr
   refine wseq ?_
   refine regO ?_
   refine oPb T hS 1 [(0, Sl a1 l_ c1), (4, V (.map (some r101))), (5, I y110), (6, Pt 7 0), (12, Sl a1 l_ c1), (13, I (lN l_)), (14, I y110), (19, V (.agg #[.int .i64 ((gi l_ y110).What), .int .i64 ((gi l_ y110).Prc), .int .i64 ((gi l_ y110).N)]))] fun a hS => ?_
   refine op1 (call hS kr kr hb37 kr (fun _ _ => rfl) (k37 _ _ (gi l_ y110)) ?_)
   intro v114 a w115 X116 hE hp hS
   replace hO := hO.m2 hE
   replace h106 := h106.m1 hE
   replace h108 := h108.m2 hE
   replace h109 := h109.m1 hE
   obtain ⟨r117, hr⟩ : ∃ r, event_alone (gi l_ y110) = r := ⟨_, rfl⟩
   replace hm := hm r117 hr
   rw [hr] at hp
   clear hr
   subst hp
   refine ePb T hS [(0, Sl a1 l_ c1), (4, V (.map (some r101))), (5, I y110), (6, Pt 7 0), (7, I r117), (12, Sl a1 l_ c1), (13, I (lN l_)), (14, I y110)] fun a hS => ?_
   refine rPb T hS [(0, Sl a1 l_ c1), (4, V (.map (some r101))), (5, I y110), (6, Pt 7 0), (7, I r117), (12, Sl a1 l_ c1), (13, I (lN l_)), (14, I y110), (22, B (r117 != 0))] fun a hS => ?_
   refine wcond hS (b := (r117 != 0)) kr (fun hb => ?_) fun hb => ?_
   ·replace hm := hm.1 hb
    refine rP T hS ⟨[(2, I y110), (3, I r117)], []⟩ fun a hS => ?_
    refine wret ?_
    exact fin T hS hO (fun c => c) rfl (r := [.int .i64 y110, .int .i64 r117]) kr (fun X' hM hC => ⟨(y110, r117), hm, rfl⟩)
   replace hm := hm.2 hb
   refine wskip (wseq ?_)
   refine regO ?_
   refine oPb T hS 3 [(0, Sl a1 l_ c1), (4, V (.map (some r101))), (5, I y110), (6, Pt 7 0), (12, Sl a1 l_ c1), (13, I (lN l_)), (14, I y110), (25, V (.map (some r101))), (27, I ((gi l_ y110).Prc))] fun a hS => ?_
   refine op1 (mlook kI tI false (zv := .int .i64 0) (z := 0) ((gi l_ y110).Prc) hS kr kr kr kr Try.underlying59 Try.underlying3 kr rfl h108 ?_)
   intro v118 a hv hS
   replace hv : tI.R _ _ [v118] _ := hv
   cases hv
   refine ePb T hS [(0, Sl a1 l_ c1), (4, V (.map (some r101))), (5, I y110), (6, Pt 7 0), (12, Sl a1 l_ c1), (13, I (lN l_)), (14, I y110), (33, B ((((mget y107 ((gi l_ y110).Prc)).getD 0) == 1) == (((gi l_ y110).What) == 1)))] fun a hS => ?_
   refine wcond hS (b := ((((mget y107 ((gi l_ y110).Prc)).getD 0) == 1) == (((gi l_ y110).What) == 1))) kr (fun hb => ?_) fun hb => ?_
   ·replace hm := hm.1 hb
    refine rP T hS ⟨[(2, I y110), (3, I 33)], []⟩ fun a hS => ?_
    refine wret ?_
    exact fin T hS hO (fun c => c) rfl (r := [.int .i64 y110, .int .i64 33]) kr (fun X' hM hC => ⟨(y110, 33), hm, rfl⟩)
   replace hm := hm.2 hb
   refine wskip ?_
   refine region ?_
   refine oP T hS 5 ⟨[(0, Sl a1 l_ c1), (4, V (.map (some r101))), (12, Sl a1 l_ c1), (13, I (lN l_)), (14, I y110), (35, V (.map (some r101))), (37, I ((gi l_ y110).Prc)), (39, I ((gi l_ y110).What))], []⟩ fun a hS => ?_
   refine op1 (mset kI tI false (v := I ((gi l_ y110).What)) (u := (gi l_ y110).What) ((gi l_ y110).Prc) hS kr kr kr kr Try.underlying59 Try.underlying3 kr h108 rfl ?_)
   intro a w119 hE h120 hS
   clear h108
   replace hO := hO.m2 hE
   replace h106 := h106.m1 hE
   replace h109 := h109.m1 hE
   refine doneK ?_
   refine region (ePb T hS [(0, Sl a1 l_ c1), (4, V (.map (some r101))), (12, Sl a1 l_ c1), (13, I (lN l_)), (14, I (wR (y110 + 1)))] fun a hS => ?_)
   exact ⟨⟨mput y107 ((gi l_ y110).Prc) ((gi l_ y110).What), wR (y110 + 1)⟩, ⟨Z, _, hm.1, hS.sl _, hO, h106, h120, h109⟩, hm.2⟩
  replace hm := hm.2 hb
  refine wexit (by rfl) ?_
  exact ⟨Z, _, hm, hS.sl _, hO, h106⟩
 rintro a w126 ⟨Z, X125, hm, hS, hO, h105⟩
 unfold VC23_J1 at hm
 refine rPb T hS [(2, I (lN l_)), (3, I 0)] fun a hS => ?_
 refine wret ?_
 exact fin T hS hO (fun c => c) rfl (r := [.int .i64 (lN l_), .int .i64 0]) kr (fun X' hM hC => ⟨((lN l_), 0), hm, rfl⟩)
theorem C23 (k37 : S37) (v : ∀ (l_ : List Api_Event), VC23 l_ (fun r => r = event_Check l_)) : S23 := by
 intro w X l_ a1 c1   h1
 refine (W23 k37 w X l_ a1 c1   _ (v l_) h1).mono ?_
 rintro _ _ _ _ ⟨r, rfl, h⟩
 exact h
theorem W39 (w0) (X0) (l_ : List Api_Event) (a1) (c1) (Q : Int -> Prop) (hm : VC39 l_ Q) (h1 : RS tApi_Event w0 X0 a1 l_ c1) :
  Ret Try.prog 39 #[.slice a1 l_.length c1] xnone w0 X0 (fun w X' v => ∃ r, Q r /\ v = .int .i64 r) := by
 unfold VC39 at hm
 replace hm := hm (h1.sm kr)
 refine enter Try.func39 rfl (vals := [.slice a1 l_.length c1]) kr ?_
 intro Z a hS hO hM
 replace h1 := h1.m0 hM
 refine rPb T hS [(0, Sl a1 l_ c1)] fun a hS => ?_
 refine rPb T hS [(0, Sl a1 l_ c1), (3, I (-1))] fun a hS => ?_
 refine wcut (fun a w => ∃ (Z : Nat -> Nat) (X : Nat -> Nat) (y101 : Int), VC39_J1 Q y101 /\ St Try.f39.ntmps ⟨[(3, I y101)], []⟩ Z a w X /\ Old w0 X0 w X) ?_ ?_
 ·refine rPb T hS [(3, I (-1)), (6, Sl a1 l_ c1), (7, I (lN l_)), (8, I 0)] fun a hS => ?_
  refine wblock ?_
  obtain ⟨I1, μ1, hm0, hm⟩ := hm
  refine wloop (σ := Int × Int) (fun s a w => ∃ Z X, I1 s.1 s.2 /\ St Try.f39.ntmps ⟨[(3, I s.1), (6, Sl a1 l_ c1), (7, I (lN l_)), (8, I s.2)], []⟩ Z a w X /\ Old w0 X0 w X /\ RS tApi_Event w X a1 l_ c1) (fun s => μ1 s.1 s.2) (⟨(-1), 0⟩) ?_ ?_
  ·exact ⟨Z, _, hm0, hS.sl _, hO, h1⟩
  rintro ⟨y102, y104⟩ a w115 ⟨Z, X114, hI, hS, hO, h103⟩
  replace hm := hm y102 y104 hI
  clear hI hm0
  refine rPb T hS [(3, I y102), (6, Sl a1 l_ c1), (7, I (lN l_)), (8, I y104), (9, B (decide (y104 < (lN l_))))] fun a hS => ?_
  refine wseq ?_
  refine wcond hS (b := decide (y104 < (lN l_))) kr (fun hb => ?_) fun hb => ?_
  ·replace hm := hm.1 hb
   refine wskip ?_
   refine wcut (fun a w => ∃ (Z : Nat -> Nat) (X : Nat -> Nat) (y105 : Int), VC39_J2 I1 μ1 y102 y104 y105 /\ St Try.f39.ntmps ⟨[(3, I y105), (6, Sl a1 l_ c1), (7, I (lN l_)), (8, I y104)], []⟩ Z a w X /\ Old w0 X0 w X /\ RS tApi_Event w X a1 l_ c1) ?_ ?_
   ·refine wblock ?_
    refine regO ?_
    obtain ⟨hq, hm⟩ := hm
    refine op1 (index (e := 54) (k := .i64) T hS kr kr kr kr h103 kr kr hq.1 hq.2 ?_)
    intro A107 a h108 hS
    refine op1 (loadA T hS kr kr kr h108 kr kr ?_)
    intro v109 a hv hS
    subst hv
    refine eM T hS ⟨[(3, I y102), (5, Pt 6 0), (6, Sl a1 l_ c1), (7, I (lN l_)), (8, I y104)], [(6, (54, (cE (gi l_ y104))))]⟩ fun Z a w110 X111 hS hE hr => ?_
    replace hO := hO.m2 hE
    replace h103 := h103.m1 hE
    clear hE hr
    refine rPb T hS [(3, I y102), (5, Pt 6 0), (6, Sl a1 l_ c1), (7, I (lN l_)), (8, I y104), (14, B (((gi l_ y104).What) == 1))] fun a hS => ?_
    refine wcond hS (b := (((gi l_ y104).What) == 1)) kr (fun hb => ?_) fun hb => ?_
    ·replace hm := hm.1 hb
     refine region (eP T hS ⟨[(3, I (if (if 63 < ((gi l_ y104).N) then 63 else ((gi l_ y104).N)) > y102 then (if 63 < ((gi l_ y104).N) then 63 else ((gi l_ y104).N)) else y102)), (6, Sl a1 l_ c1), (7, I (lN l_)), (8, I y104)], []⟩ fun a hS => ?_)
     exact ⟨Z, _, if (if 63 < ((gi l_ y104).N) then 63 else ((gi l_ y104).N)) > y102 then (if 63 < ((gi l_ y104).N) then 63 else ((gi l_ y104).N)) else y102, hm, hS.sl _, hO, h103⟩
    replace hm := hm.2 hb
    refine wskip ?_
    exact ⟨Z, _, y102, hm, hS.sl _, hO, h103⟩
   rintro a w113 ⟨Z, X112, y105, hm, hS, hO, h106⟩
   unfold VC39_J2 at hm
   refine region (ePb T hS [(3, I y105), (6, Sl a1 l_ c1), (7, I (lN l_)), (8, I (wR (y104 + 1)))] fun a hS => ?_)
   exact ⟨⟨y105, wR (y104 + 1)⟩, ⟨Z, _, hm.1, hS.sl _, hO, h106⟩, hm.2⟩
  replace hm := hm.2 hb
  refine wexit (by rfl) ?_
  exact ⟨Z, _, y102, hm, hS.sl _, hO⟩
 rintro a w117 ⟨Z, X116, y101, hm, hS, hO⟩
 unfold VC39_J1 at hm
 refine rPb T hS [(2, I (wR (y101 + 1)))] fun a hS => ?_
 refine wret ?_
 exact fin T hS hO (fun c => c) rfl (r := [.int .i64 (wR (y101 + 1))]) kr (fun X' hM hC => ⟨(wR (y101 + 1)), hm, rfl⟩)
theorem C39 (v : ∀ (l_ : List Api_Event), VC39 l_ (fun r => r = event_Kinds l_)) : S39 := by
 intro w X l_ a1 c1   h1
 refine (W39 w X l_ a1 c1   _ (v l_) h1).mono ?_
 rintro _ _ _ _ ⟨r, rfl, h⟩
 exact h
theorem W16 (w0) (X0) (a_ : List Api_Event) (b_ : List Api_Event) (a1) (c1) (a2) (c2) (Q : Bool -> Prop) (hm : VC16 a_ b_ Q) (h1 : RS tApi_Event w0 X0 a1 a_ c1) (h2 : RS tApi_Event w0 X0 a2 b_ c2) :
  Ret Try.prog 16 #[.slice a1 a_.length c1, .slice a2 b_.length c2] xnone w0 X0 (fun w X' v => ∃ r, Q r /\ v = .bool r) := by
 unfold VC16 at hm
 replace hm := hm (h1.sm kr)
 replace hm := hm (h2.sm kr)
 refine enter Try.func16 rfl (vals := [.slice a1 a_.length c1, .slice a2 b_.length c2]) kr ?_
 intro Z a hS hO hM
 replace h1 := h1.m0 hM
 replace h2 := h2.m0 hM
 refine rPb T hS [(0, Sl a1 a_ c1), (1, Sl a2 b_ c2)] fun a hS => ?_
 refine wseq ?_
 refine rPb T hS [(0, Sl a1 a_ c1), (1, Sl a2 b_ c2), (10, B ((lN a_) != (lN b_)))] fun a hS => ?_
 refine wcond hS (b := ((lN a_) != (lN b_))) kr (fun hb => ?_) fun hb => ?_
 ·replace hm := hm.1 hb
  refine rPb T hS [(4, B false)] fun a hS => ?_
  refine wret ?_
  exact fin T hS hO (fun c => c) rfl (r := [.bool false]) kr (fun X' hM hC => ⟨false, hm, rfl⟩)
 replace hm := hm.2 hb
 refine wskip ?_
 refine wcut (fun a w => ∃ Z X, VC16_J1 Q /\ St Try.f16.ntmps ⟨[], []⟩ Z a w X /\ Old w0 X0 w X) ?_ ?_
 ·refine rPb T hS [(0, Sl a1 a_ c1), (1, Sl a2 b_ c2), (5, I 0)] fun a hS => ?_
  refine wblock ?_
  obtain ⟨I1, μ1, hm0, hm⟩ := hm
  refine wloop (σ := Int) (fun s a w => ∃ Z X, I1 s /\ St Try.f16.ntmps ⟨[(0, Sl a1 a_ c1), (1, Sl a2 b_ c2), (5, I s)], []⟩ Z a w X /\ Old w0 X0 w X /\ RS tApi_Event w X a1 a_ c1 /\ RS tApi_Event w X a2 b_ c2) (fun s => μ1 s) (0) ?_ ?_
  ·exact ⟨Z, _, hm0, hS.sl _, hO, h1, h2⟩
  rintro y103 a w113 ⟨Z, X112, hI, hS, hO, h101, h102⟩
  replace hm := hm y103 hI
  clear hI hm0
  refine wseq ?_
  refine rPb T hS [(0, Sl a1 a_ c1), (1, Sl a2 b_ c2), (5, I y103), (14, B (decide (y103 < (lN a_))))] fun a hS => ?_
  refine wcond hS (b := decide (y103 < (lN a_))) kr (fun hb => ?_) fun hb => ?_
  ·replace hm := hm.1 hb
   refine wskip (wseq ?_)
   refine wblock ?_
   refine drawnSX [] mixed hS ?_
   intro w104 X105 hS hE hD hH
   replace hO := hO.m2 hE
   replace h101 := h101.m1 hE
   replace h102 := h102.m1 hE
   refine tkb T [0, 1, 4, 5] [] hS hH #[true, true, false, false, true, true, false, false, false] 5 [(0, Sl a1 a_ c1), (1, Sl a2 b_ c2), (5, I y103), (17, Sl a1 a_ c1), (18, I y103), (21, Sl a2 b_ c2), (22, I y103)] fun a hS => ?_
   obtain ⟨hq, hm⟩ := hm
   refine dindex (e := 54) (k := .i64) T 2 hS kr kr kr (by rfl) kr hH kr kr h101 kr kr hq.1 hq.2 ?_
   intro A106 a h107 hS
   have h107b := h107.here
   refine dloadA T 3 hS kr kr kr (by rfl) kr hH kr h107 h107b kr kr ?_
   intro v108 a hv hS
   subst hv
   obtain ⟨hq, hm⟩ := hm
   refine dindex (e := 54) (k := .i64) T 6 hS kr kr kr (by rfl) kr hH kr kr h102 kr kr hq.1 hq.2 ?_
   intro A109 a h110 hS
   have h110b := h110.here
   refine dloadA T 7 hS kr kr kr (by rfl) kr hH kr h110 h110b kr kr ?_
   intro v111 a hv hS
   subst hv
   refine dstructEq (op := .neq) (xs := [.int .i64 ((gi a_ y103).What), .int .i64 ((gi a_ y103).Prc), .int .i64 ((gi a_ y103).N)]) (ys := [.int .i64 ((gi b_ y103).What), .int .i64 ((gi b_ y103).Prc), .int .i64 ((gi b_ y103).N)]) (r := (((gi a_ y103).What) == ((gi b_ y103).What) && (((gi a_ y103).Prc) == ((gi b_ y103).Prc) && (((gi a_ y103).N) == ((gi b_ y103).N) && true)))) (b := (!(((gi a_ y103).What) == ((gi b_ y103).What) && (((gi a_ y103).Prc) == ((gi b_ y103).Prc) && (((gi a_ y103).N) == ((gi b_ y103).N) && true))))) 8 T hS kr kr kr (by rfl) kr hH kr kr kr kr kr kr ?_
   intro a hS
   refine drawnDone kr ?_
   replace hS := hS.slb [(0, Sl a1 a_ c1), (1, Sl a2 b_ c2), (5, I y103), (25, B (!(((gi a_ y103).What) == ((gi b_ y103).What) && (((gi a_ y103).Prc) == ((gi b_ y103).Prc) && (((gi a_ y103).N) == ((gi b_ y103).N) && true)))))]
   refine wcond hS (b := (!(((gi a_ y103).What) == ((gi b_ y103).What) && (((gi a_ y103).Prc) == ((gi b_ y103).Prc) && (((gi a_ y103).N) == ((gi b_ y103).N) && true))))) kr (fun hb => ?_) fun hb => ?_
   ·replace hm := hm.1 hb
    refine rPb T hS [(4, B false)] fun a hS => ?_
    refine wret ?_
    exact fin T hS hO (fun c => c) rfl (r := [.bool false]) kr (fun X' hM hC => ⟨false, hm, rfl⟩)
   replace hm := hm.2 hb
   refine wskip ?_
   refine region (ePb T hS [(0, Sl a1 a_ c1), (1, Sl a2 b_ c2), (5, I (wR (y103 + 1)))] fun a hS => ?_)
   exact ⟨wR (y103 + 1), ⟨Z, _, hm.1, hS.sl _, hO, h101, h102⟩, hm.2⟩
  replace hm := hm.2 hb
  refine wexit (by rfl) ?_
  exact ⟨Z, _, hm, hS.sl _, hO⟩
 rintro a w115 ⟨Z, X114, hm, hS, hO⟩
 unfold VC16_J1 at hm
 refine rPb T hS [(4, B true)] fun a hS => ?_
 refine wret ?_
 exact fin T hS hO (fun c => c) rfl (r := [.bool true]) kr (fun X' hM hC => ⟨true, hm, rfl⟩)
theorem C16 (v : ∀ (a_ : List Api_Event) (b_ : List Api_Event), VC16 a_ b_ (fun r => r = ref25_Same a_ b_)) : S16 := by
 intro w X a_ b_ a1 c1 a2 c2   h1 h2
 refine (W16 w X a_ b_ a1 c1 a2 c2   _ (v a_ b_) h1 h2).mono ?_
 rintro _ _ _ _ ⟨r, rfl, h⟩
 exact h
theorem W24 (k23 : S23) (k38 : S38) (k39 : S39) (w0) (X0) (c_ : Histtext_Case) (a1) (c1) (a2) (c2) (Q : Int -> Prop) (hm : VC24 c_ Q) (h1 : RS tApi_Row w0 X0 a1 c_.Object.Rows c1) (h2 : RS tApi_Event w0 X0 a2 c_.Events c2) :
  Ret Try.prog 24 #[.agg #[.int .i64 c_.Object.States, .int .i64 c_.Object.Kinds, .int .i64 c_.Object.Init, .slice a1 c_.Object.Rows.length c1, .slice a2 c_.Events.length c2]] xnone w0 X0 (fun w X' v => ∃ r, Q r /\ v = .int .i64 r) := by
 unfold VC24 at hm
 replace hm := hm (h1.sm kr)
 replace hm := hm (h2.sm kr)
 refine enter Try.func24 rfl (vals := [.agg #[.int .i64 c_.Object.States, .int .i64 c_.Object.Kinds, .int .i64 c_.Object.Init, .slice a1 c_.Object.Rows.length c1, .slice a2 c_.Events.length c2]]) kr ?_
 intro Z a hS hO hM
 replace h1 := h1.m0 hM
 replace h2 := h2.m0 hM
 refine rM T hS ⟨[(1, Pt 2 0)], [(2, (33, [I c_.Object.States, I c_.Object.Kinds, I c_.Object.Init, Sl a1 c_.Object.Rows c1, Sl a2 c_.Events c2]))]⟩ fun Z a w115 X116 hS hE hr => ?_
 replace hO := hO.m2 hE
 replace h1 := h1.m1 hE
 replace h2 := h2.m1 hE
 clear hE hr
 refine wseq ?_
 refine regO ?_
 refine oPb T hS 2 [(1, Pt 2 0), (9, V (.agg #[.int .i64 c_.Object.States, .int .i64 c_.Object.Kinds, .int .i64 c_.Object.Init, .slice a1 c_.Object.Rows.length c1]))] fun a hS => ?_
 obtain ⟨hq, hm⟩ := hm
 refine op1 (call hS kr kr hb38 kr (fun _ _ => rfl) (k38 _ _ c_.Object a1 c1 hq h1) ?_)
 intro v101 a w102 X103 hE hp hS
 replace hO := hO.m2 hE
 replace h1 := h1.m1 hE
 replace h2 := h2.m1 hE
 obtain ⟨r104, hr⟩ : ∃ r, object_Check c_.Object = r := ⟨_, rfl⟩
 replace hm := hm r104 hr
 rw [hr] at hp
 clear hr
 subst hp
 refine ePb T hS [(1, Pt 2 0), (4, I r104.2)] fun a hS => ?_
 refine rPb T hS [(1, Pt 2 0), (4, I r104.2), (14, B (r104.2 != 0))] fun a hS => ?_
 refine wcond hS (b := (r104.2 != 0)) kr (fun hb => ?_) fun hb => ?_
 ·replace hm := hm.1 hb
  refine rP T hS ⟨[(2, I r104.2)], []⟩ fun a hS => ?_
  refine wret ?_
  exact fin T hS hO (fun c => c) rfl (r := [.int .i64 r104.2]) kr (fun X' hM hC => ⟨r104.2, hm, rfl⟩)
 replace hm := hm.2 hb
 refine wskip (wseq ?_)
 refine regO ?_
 refine oPb T hS 2 [(1, Pt 2 0), (18, Sl a2 c_.Events c2)] fun a hS => ?_
 refine op1 (call hS kr kr hb23 kr (fun _ _ => rfl) (k23 _ _ c_.Events a2 c2 h2) ?_)
 intro v105 a w106 X107 hE hp hS
 replace hO := hO.m2 hE
 replace h1 := h1.m1 hE
 replace h2 := h2.m1 hE
 obtain ⟨r108, hr⟩ : ∃ r, event_Check c_.Events = r := ⟨_, rfl⟩
 replace hm := hm r108 hr
 rw [hr] at hp
 clear hr
 subst hp
 refine ePb T hS [(1, Pt 2 0), (6, I r108.2)] fun a hS => ?_
 refine rPb T hS [(1, Pt 2 0), (6, I r108.2), (23, B (r108.2 != 0))] fun a hS => ?_
 refine wcond hS (b := (r108.2 != 0)) kr (fun hb => ?_) fun hb => ?_
 ·replace hm := hm.1 hb
  refine rP T hS ⟨[(2, I r108.2)], []⟩ fun a hS => ?_
  refine wret ?_
  exact fin T hS hO (fun c => c) rfl (r := [.int .i64 r108.2]) kr (fun X' hM hC => ⟨r108.2, hm, rfl⟩)
 replace hm := hm.2 hb
 refine wskip (wseq ?_)
 refine drawnSX [2] mixed hS ?_
 intro w109 X110 hS hE hD hH
 replace hO := hO.m2 hE
 replace h1 := h1.m1 hE
 replace h2 := h2.m1 hE
 refine tkb T [0, 3, 1, 4, 5] [2] hS hH #[true, true, false, true, true, true, false] 2 [(26, Sl a2 c_.Events c2), (30, I c_.Object.Kinds)] fun a hS => ?_
 refine only 2 kr (by rfl) (call hS kr kr hb39 kr (fun _ _ => rfl) (k39 _ _ c_.Events a2 c2 h2) ?_)
 intro v111 a w112 X113 hE hp hS
 replace hO := hO.m2 hE
 replace hD := hD.ev hE rfl
 replace h1 := h1.m1 hE
 replace h2 := h2.m1 hE
 obtain ⟨r114, hr⟩ : ∃ r, event_Kinds c_.Events = r := ⟨_, rfl⟩
 replace hm := hm r114 hr
 rw [hr] at hp
 clear hr
 subst hp
 replace hS := hS.slb [(26, Sl a2 c_.Events c2), (30, I c_.Object.Kinds), (27, I r114)]
 refine andH (Hold.of hS (bks := [2]) kr hD) ?_
 intro hH
 refine tkb T [6] [2] hS hH (tts 7) 0 [(31, B (decide (r114 > c_.Object.Kinds)))] fun a hS => ?_
 refine drawnDone kr ?_
 replace hS := hS.sl ⟨[(31, B (decide (r114 > c_.Object.Kinds)))], []⟩
 refine wcond hS (b := decide (r114 > c_.Object.Kinds)) kr (fun hb => ?_) fun hb => ?_
 ·replace hm := hm.1 hb
  refine rPb T hS [(2, I 31)] fun a hS => ?_
  refine wret ?_
  exact fin T hS hO (fun c => c) rfl (r := [.int .i64 31]) kr (fun X' hM hC => ⟨31, hm, rfl⟩)
 replace hm := hm.2 hb
 refine wskip ?_
 refine rPb T hS [(2, I 0)] fun a hS => ?_
 refine wret ?_
 exact fin T hS hO (fun c => c) rfl (r := [.int .i64 0]) kr (fun X' hM hC => ⟨0, hm, rfl⟩)
theorem C24 (k23 : S23) (k38 : S38) (k39 : S39) (v : ∀ (c_ : Histtext_Case), preCa c_ -> VC24 c_ (fun r => r = histtext_Check c_)) : S24 := by
 intro w X c_ a1 c1 a2 c2   hp h1 h2
 refine (W24 k23 k38 k39 w X c_ a1 c1 a2 c2   _ (v c_ hp) h1 h2).mono ?_
 rintro _ _ _ _ ⟨r, rfl, h⟩
 exact h
theorem W9 (k23 : S23) (w0) (X0) (l_ : List Api_Event) (a1) (c1) (Q : (List Api_Oper) × Int -> Prop) (hm : VC9 l_ Q) (h1 : RS tApi_Event w0 X0 a1 l_ c1) :
  Ret Try.prog 9 #[.slice a1 l_.length c1] xnone w0 X0 (fun w X' v => ∃ r, Q r /\ ∃ ra1 rc1, v = .tuple #[.slice ra1 r.1.length rc1, .int .i64 r.2] /\ RS tApi_Oper w X' ra1 r.1 rc1) := by
 unfold VC9 at hm
 replace hm := hm (h1.sm kr)
 refine enter Try.func9 rfl (vals := [.slice a1 l_.length c1]) kr ?_
 intro Z a hS hO hM
 replace h1 := h1.m0 hM
 refine rPb T hS [(0, Sl a1 l_ c1)] fun a hS => ?_
 refine wseq ?_
 refine regO ?_
 refine oPb T hS 1 [(0, Sl a1 l_ c1), (12, Sl a1 l_ c1)] fun a hS => ?_
 refine op1 (call hS kr kr hb23 kr (fun _ _ => rfl) (k23 _ _ l_ a1 c1 h1) ?_)
 intro v101 a w102 X103 hE hp hS
 replace hO := hO.m2 hE
 replace h1 := h1.m1 hE
 obtain ⟨r104, hr⟩ : ∃ r, event_Check l_ = r := ⟨_, rfl⟩
 replace hm := hm r104 hr
 rw [hr] at hp
 clear hr
 subst hp
 refine ePb T hS [(0, Sl a1 l_ c1), (5, I r104.2)] fun a hS => ?_
 refine rPb T hS [(0, Sl a1 l_ c1), (5, I r104.2), (17, B (r104.2 != 0))] fun a hS => ?_
 refine wcond hS (b := (r104.2 != 0)) kr (fun hb => ?_) fun hb => ?_
 ·replace hm := hm.1 hb
  refine rPb T hS [(2, V (.slice none 0 0)), (3, I r104.2)] fun a hS => ?_
  refine wret ?_
  exact fin T hS hO (fun c => c) rfl (r := [.slice none 0 0, .int .i64 r104.2]) kr (fun X' hM hC => ⟨([], r104.2), hm, none, 0, rfl, RS.empty _ _ _⟩)
 replace hm := hm.2 hb
 refine wskip ?_
 refine rPb T hS [(0, Sl a1 l_ c1), (6, V (.slice none 0 0))] fun a hS => ?_
 refine regO ?_
 refine op1 (mkmap kI tI false 1020 hS kr kr ?_)
 intro r105 a w106 X107 hE h108 hS
 replace hO := hO.m2 hE
 replace h1 := h1.m1 hE
 refine ePb T hS [(0, Sl a1 l_ c1), (6, V (.slice none 0 0)), (7, V (.map (some r105)))] fun a hS => ?_
 refine wcut (fun a w => ∃ (Z : Nat -> Nat) (X : Nat -> Nat) (y109 : List Api_Oper) (a110 : Option Addr) (c111 : Nat), VC9_J1 Q y109 /\ St Try.f9.ntmps ⟨[(6, Sl a110 y109 c111)], []⟩ Z a w X /\ Old w0 X0 w X /\ OS tApi_Oper 61 w X 1003 a110 y109 c111) ?_ ?_
 ·refine rPb T hS [(6, V (.slice none 0 0)), (7, V (.map (some r105))), (20, Sl a1 l_ c1), (21, I (lN l_)), (22, I 0)] fun a hS => ?_
  refine wblock ?_
  obtain ⟨I1, μ1, hm0, hm⟩ := hm
  refine wloop (σ := (List Api_Oper) × (List (Int × Int)) × Int) (fun s a w => ∃ Z X a116 c117, I1 s.1 s.2.1 s.2.2 /\ St Try.f9.ntmps ⟨[(6, Sl a116 s.1 c117), (7, V (.map (some r105))), (20, Sl a1 l_ c1), (21, I (lN l_)), (22, I s.2.2)], []⟩ Z a w X /\ Old w0 X0 w X /\ OS tApi_Oper 61 w X 1003 a116 s.1 c117 /\ OM kI tI false w X 1020 r105 s.2.1 /\ RS tApi_Event w X a1 l_ c1) (fun s => μ1 s.1 s.2.1 s.2.2) (⟨[], ([] : List (Int × Int)), 0⟩) ?_ ?_
  ·exact ⟨Z, _, none, 0, hm0, hS.sl _, hO, (OS.nil _ _ _ _ _), h108, h1⟩
  rintro ⟨y115, y119, y122⟩ a w165 ⟨Z, X164, a116, c117, hI, hS, hO, h118, h120, h121⟩
  replace hm := hm y115 y119 y122 hI
  clear hI hm0
  refine rPb T hS [(6, Sl a116 y115 c117), (7, V (.map (some r105))), (20, Sl a1 l_ c1), (21, I (lN l_)), (22, I y122), (23, B (decide (y122 < (lN l_))))] fun a hS => ?_
  refine wseq ?_
  refine wcond hS (b := decide (y122 < (lN l_))) kr (fun hb => ?_) fun hb => ?_
  ·replace hm := hm.1 hb
   refine wskip ?_
   refine wcut (fun a w => ∃ (Z : Nat -> Nat) (X : Nat -> Nat) (y123 : List Api_Oper) (y127 : List (Int × Int)) (a124 : Option Addr) (c125 : Nat), VC9_J2 I1 μ1 y115 y119 y122 y123 y127 /\ St Try.f9.ntmps ⟨[(6, Sl a124 y123 c125), (7, V (.map (some r105))), (20, Sl a1 l_ c1), (21, I (lN l_)), (22, I y122)], []⟩ Z a w X /\ Old w0 X0 w X /\ OS tApi_Oper 61 w X 1003 a124 y123 c125 /\ OM kI tI false w X 1020 r105 y127 /\ RS tApi_Event w X a1 l_ c1) ?_ ?_
   ·refine wblock ?_
    refine regO ?_
    refine oPb T hS 1 [(6, Sl a116 y115 c117), (7, V (.map (some r105))), (20, Sl a1 l_ c1), (21, I (lN l_)), (22, I y122), (24, I y122)] fun a hS => ?_
    obtain ⟨hq, hm⟩ := hm
    refine op1 (index (e := 54) (k := .i64) T hS kr kr kr kr h121 kr kr hq.1 hq.2 ?_)
    intro A130 a h131 hS
    refine op1 (loadA T hS kr kr kr h131 kr kr ?_)
    intro v132 a hv hS
    subst hv
    refine eM T hS ⟨[(6, Sl a116 y115 c117), (7, V (.map (some r105))), (8, I y122), (9, Pt 10 0), (20, Sl a1 l_ c1), (21, I (lN l_)), (22, I y122)], [(10, (54, (cE (gi l_ y122))))]⟩ fun Z a w160 X161 hS hE hr => ?_
    replace hO := hO.m2 hE
    replace h118 := h118.m2 hE
    replace h120 := h120.m2 hE
    replace h121 := h121.m1 hE
    clear hE hr
    refine wseq ?_
    refine rPb T hS [(6, Sl a116 y115 c117), (7, V (.map (some r105))), (8, I y122), (9, Pt 10 0), (20, Sl a1 l_ c1), (21, I (lN l_)), (22, I y122), (29, B (((gi l_ y122).What) == 1))] fun a hS => ?_
    refine wcond hS (b := (((gi l_ y122).What) == 1)) kr (fun hb => ?_) fun hb => ?_
    ·replace hm := hm.1 hb
     refine regO ?_
     refine oPb T hS 5 [(6, Sl a116 y115 c117), (7, V (.map (some r105))), (8, I y122), (9, Pt 10 0), (20, Sl a1 l_ c1), (21, I (lN l_)), (22, I y122), (30, V (.map (some r105))), (32, I ((gi l_ y122).Prc)), (34, I (lN y115))] fun a hS => ?_
     refine op1 (mset kI tI false (v := I (lN y115)) (u := (lN y115)) ((gi l_ y122).Prc) hS kr kr kr kr Try.underlying59 Try.underlying3 kr h120 rfl ?_)
     intro a w133 hE h134 hS
     clear h120
     replace hO := hO.m2 hE
     replace h118 := h118.m2 hE
     replace h121 := h121.m1 hE
     refine doneK ?_
     refine regO ?_
     refine oP T hS 7 ⟨[(6, Sl a116 y115 c117), (7, V (.map (some r105))), (20, Sl a1 l_ c1), (21, I (lN l_)), (22, I y122), (35, Sl a116 y115 c117), (41, V (.agg #[.int .i64 ((gi l_ y122).Prc), .int .i64 ((gi l_ y122).N), .int .i64 y122, .int .i64 (-1), .int .i64 (-1)]))], []⟩ fun a hS => ?_
     refine op1 (lit (E := 61) (col := 0) (T := tApi_Oper) (vals := [.agg #[.int .i64 ((gi l_ y122).Prc), .int .i64 ((gi l_ y122).N), .int .i64 y122, .int .i64 (-1), .int .i64 (-1)]]) (ys := [(⟨(gi l_ y122).Prc, (gi l_ y122).N, y122, (-1), (-1)⟩ : Api_Oper)]) T hS kr kr kr kr (by exact ⟨rfl, trivial⟩) rfl kr kr kr kr ?_)
     intro b135 a w136 X137 hE h138 hN hS
     clear hN
     replace hO := hO.m2 hE
     replace h118 := h118.m2 hE
     replace h121 := h121.m1 hE
     replace h134 := h134.m2 hE
     replace h138 := h138.rs0
     obtain ⟨hq, hm⟩ := hm
     obtain ⟨news, hN⟩ := h138.src
     refine op1 (append (E := 61) (T := tApi_Oper) (col := 1003) (xs := y115) T hS kr kr kr kr h118 hN kr kr kr kr hq ?_)
     intro a142 c143 a w139 X140 hE h141 hS
     clear hq hN
     clear h118
     replace hO := hO.m2 hE
     replace h121 := h121.m1 hE
     replace h134 := h134.m2 hE
     replace h138 := h138.m1 hE
     refine ePb T hS [(6, Sl a142 (y115 ++ [(⟨(gi l_ y122).Prc, (gi l_ y122).N, y122, (-1), (-1)⟩ : Api_Oper)]) c143), (7, V (.map (some r105))), (20, Sl a1 l_ c1), (21, I (lN l_)), (22, I y122)] fun a hS => ?_
     refine wexit (by rfl) ?_
     exact ⟨Z, _, y115 ++ [(⟨(gi l_ y122).Prc, (gi l_ y122).N, y122, (-1), (-1)⟩ : Api_Oper)], mput y119 ((gi l_ y122).Prc) (lN y115), a142, c143, hm, hS.sl _, hO, h141, h134, h121⟩
    replace hm := hm.2 hb
    refine wskip ?_
    refine regO ?_
    refine oPb T hS 4 [(6, Sl a116 y115 c117), (7, V (.map (some r105))), (8, I y122), (9, Pt 10 0), (20, Sl a1 l_ c1), (21, I (lN l_)), (22, I y122), (44, Sl a116 y115 c117), (45, V (.map (some r105))), (47, I ((gi l_ y122).Prc))] fun a hS => ?_
    refine op1 (mlook kI tI false (zv := .int .i64 0) (z := 0) ((gi l_ y122).Prc) hS kr kr kr kr Try.underlying59 Try.underlying3 kr rfl h120 ?_)
    intro v144 a hv hS
    replace hv : tI.R _ _ [v144] _ := hv
    cases hv
    obtain ⟨hq149, hm⟩ := hm
    refine op1 (indexX (E := 61) (k := .i64) T hS kr kr kr kr h118 kr kr hq149.1 hq149.2 ?_)
    intro A145 a h147 h146 hS
    have h148 := h147.ad
    clear h147 h146
    refine ePb T hS [(6, Sl a116 y115 c117), (7, V (.map (some r105))), (8, I y122), (9, Pt 10 0), (10, V (.pointer (some A145))), (20, Sl a1 l_ c1), (21, I (lN l_)), (22, I y122)] fun a hS => ?_
    refine drawnX [10] mixed hS ?_
    intro w150 X151 hS hE hD hH
    replace hO := hO.m2 hE
    replace h118 := h118.m2 hE
    replace h120 := h120.m2 hE
    replace h121 := h121.m1 hE
    refine tkb T [0, 1, 2, 3, 4] [10] hS hH #[true, true, true, true, true, false, false, false, false, false, false] 6 [(6, Sl a116 y115 c117), (7, V (.map (some r105))), (20, Sl a1 l_ c1), (21, I (lN l_)), (22, I y122), (50, V (.pointer (some A145))), (51, V (.pointer (some A145))), (52, I y122), (54, I ((gi l_ y122).N))] fun a hS => ?_
    refine only 5 kr (by rfl) (nilP (A := A145) hS kr kr kr ?_)
    intro a hS
    refine andH (Hold.of hS (bks := [10]) kr hD) ?_
    intro hH
    refine only 6 kr (by rfl) (fieldP (off := 3) (fsz := 1) (ft := 3) T hS kr kr kr h148 kr kr ?_)
    intro A152 a h153 hS
    refine andH (Hold.of hS (bks := [10]) kr hD) ?_
    intro hH
    refine only 7 kr (by rfl) (storeF (m := 1) (off := 3) (x := (⟨(gi y115 ((mget y119 ((gi l_ y122).Prc)).getD 0)).Prc, (gi y115 ((mget y119 ((gi l_ y122).Prc)).getD 0)).Kind, (gi y115 ((mget y119 ((gi l_ y122).Prc)).getD 0)).Start, y122, (gi y115 ((mget y119 ((gi l_ y122).Prc)).getD 0)).Result⟩ : Api_Oper)) (v := I y122) (i := ((mget y119 ((gi l_ y122).Prc)).getD 0).toNat) (E := 61) (xs := y115) T hS kr kr kr kr h118 h153 (by have := hq149.1; have := hq149.2; (try simp only [List.length_set]); omega) kr kr rfl (fun _ _ _ h => by cases h; rfl) ?_)
    intro a w154 hE h155 hS
    clear h118
    replace hO := hO.m2 hE
    replace hD := hD.ev hE rfl
    replace h120 := h120.m2 hE
    replace h121 := h121.m1 hE
    replace hS := hS.conv (t := 6) (y := .slice a116 (y115.set ((mget y119 ((gi l_ y122).Prc)).getD 0).toNat (⟨(gi y115 ((mget y119 ((gi l_ y122).Prc)).getD 0)).Prc, (gi y115 ((mget y119 ((gi l_ y122).Prc)).getD 0)).Kind, (gi y115 ((mget y119 ((gi l_ y122).Prc)).getD 0)).Start, y122, (gi y115 ((mget y119 ((gi l_ y122).Prc)).getD 0)).Result⟩ : Api_Oper)).length c117) kr (by rw [List.length_set])
    refine andH (Hold.of hS (bks := [10]) kr hD) ?_
    intro hH
    refine only 8 kr (by rfl) (nilP (A := A145) hS kr kr kr ?_)
    intro a hS
    refine andH (Hold.of hS (bks := [10]) kr hD) ?_
    intro hH
    refine only 9 kr (by rfl) (fieldP (off := 4) (fsz := 1) (ft := 3) T hS kr kr kr h148 kr kr ?_)
    intro A156 a h157 hS
    refine andH (Hold.of hS (bks := [10]) kr hD) ?_
    intro hH
    refine only 10 kr (by rfl) (storeF (m := 1) (off := 4) (x := (⟨(gi (y115.set ((mget y119 ((gi l_ y122).Prc)).getD 0).toNat (⟨(gi y115 ((mget y119 ((gi l_ y122).Prc)).getD 0)).Prc, (gi y115 ((mget y119 ((gi l_ y122).Prc)).getD 0)).Kind, (gi y115 ((mget y119 ((gi l_ y122).Prc)).getD 0)).Start, y122, (gi y115 ((mget y119 ((gi l_ y122).Prc)).getD 0)).Result⟩ : Api_Oper)) ((mget y119 ((gi l_ y122).Prc)).getD 0)).Prc, (gi (y115.set ((mget y119 ((gi l_ y122).Prc)).getD 0).toNat (⟨(gi y115 ((mget y119 ((gi l_ y122).Prc)).getD 0)).Prc, (gi y115 ((mget y119 ((gi l_ y122).Prc)).getD 0)).Kind, (gi y115 ((mget y119 ((gi l_ y122).Prc)).getD 0)).Start, y122, (gi y115 ((mget y119 ((gi l_ y122).Prc)).getD 0)).Result⟩ : Api_Oper)) ((mget y119 ((gi l_ y122).Prc)).getD 0)).Kind, (gi (y115.set ((mget y119 ((gi l_ y122).Prc)).getD 0).toNat (⟨(gi y115 ((mget y119 ((gi l_ y122).Prc)).getD 0)).Prc, (gi y115 ((mget y119 ((gi l_ y122).Prc)).getD 0)).Kind, (gi y115 ((mget y119 ((gi l_ y122).Prc)).getD 0)).Start, y122, (gi y115 ((mget y119 ((gi l_ y122).Prc)).getD 0)).Result⟩ : Api_Oper)) ((mget y119 ((gi l_ y122).Prc)).getD 0)).Start, (gi (y115.set ((mget y119 ((gi l_ y122).Prc)).getD 0).toNat (⟨(gi y115 ((mget y119 ((gi l_ y122).Prc)).getD 0)).Prc, (gi y115 ((mget y119 ((gi l_ y122).Prc)).getD 0)).Kind, (gi y115 ((mget y119 ((gi l_ y122).Prc)).getD 0)).Start, y122, (gi y115 ((mget y119 ((gi l_ y122).Prc)).getD 0)).Result⟩ : Api_Oper)) ((mget y119 ((gi l_ y122).Prc)).getD 0)).End, (gi l_ y122).N⟩ : Api_Oper)) (v := I ((gi l_ y122).N)) (i := ((mget y119 ((gi l_ y122).Prc)).getD 0).toNat) (E := 61) (xs := (y115.set ((mget y119 ((gi l_ y122).Prc)).getD 0).toNat (⟨(gi y115 ((mget y119 ((gi l_ y122).Prc)).getD 0)).Prc, (gi y115 ((mget y119 ((gi l_ y122).Prc)).getD 0)).Kind, (gi y115 ((mget y119 ((gi l_ y122).Prc)).getD 0)).Start, y122, (gi y115 ((mget y119 ((gi l_ y122).Prc)).getD 0)).Result⟩ : Api_Oper))) T hS kr kr kr kr h155 h157 (by have := hq149.1; have := hq149.2; (try simp only [List.length_set]); omega) kr kr rfl (fun _ _ _ h => by cases h; rfl) ?_)
    intro a w158 hE h159 hS
    clear h155
    replace hO := hO.m2 hE
    replace hD := hD.ev hE rfl
    replace h120 := h120.m2 hE
    replace h121 := h121.m1 hE
    replace hS := hS.conv (t := 6) (y := .slice a116 ((y115.set ((mget y119 ((gi l_ y122).Prc)).getD 0).toNat (⟨(gi y115 ((mget y119 ((gi l_ y122).Prc)).getD 0)).Prc, (gi y115 ((mget y119 ((gi l_ y122).Prc)).getD 0)).Kind, (gi y115 ((mget y119 ((gi l_ y122).Prc)).getD 0)).Start, y122, (gi y115 ((mget y119 ((gi l_ y122).Prc)).getD 0)).Result⟩ : Api_Oper)).set ((mget y119 ((gi l_ y122).Prc)).getD 0).toNat (⟨(gi (y115.set ((mget y119 ((gi l_ y122).Prc)).getD 0).toNat (⟨(gi y115 ((mget y119 ((gi l_ y122).Prc)).getD 0)).Prc, (gi y115 ((mget y119 ((gi l_ y122).Prc)).getD 0)).Kind, (gi y115 ((mget y119 ((gi l_ y122).Prc)).getD 0)).Start, y122, (gi y115 ((mget y119 ((gi l_ y122).Prc)).getD 0)).Result⟩ : Api_Oper)) ((mget y119 ((gi l_ y122).Prc)).getD 0)).Prc, (gi (y115.set ((mget y119 ((gi l_ y122).Prc)).getD 0).toNat (⟨(gi y115 ((mget y119 ((gi l_ y122).Prc)).getD 0)).Prc, (gi y115 ((mget y119 ((gi l_ y122).Prc)).getD 0)).Kind, (gi y115 ((mget y119 ((gi l_ y122).Prc)).getD 0)).Start, y122, (gi y115 ((mget y119 ((gi l_ y122).Prc)).getD 0)).Result⟩ : Api_Oper)) ((mget y119 ((gi l_ y122).Prc)).getD 0)).Kind, (gi (y115.set ((mget y119 ((gi l_ y122).Prc)).getD 0).toNat (⟨(gi y115 ((mget y119 ((gi l_ y122).Prc)).getD 0)).Prc, (gi y115 ((mget y119 ((gi l_ y122).Prc)).getD 0)).Kind, (gi y115 ((mget y119 ((gi l_ y122).Prc)).getD 0)).Start, y122, (gi y115 ((mget y119 ((gi l_ y122).Prc)).getD 0)).Result⟩ : Api_Oper)) ((mget y119 ((gi l_ y122).Prc)).getD 0)).Start, (gi (y115.set ((mget y119 ((gi l_ y122).Prc)).getD 0).toNat (⟨(gi y115 ((mget y119 ((gi l_ y122).Prc)).getD 0)).Prc, (gi y115 ((mget y119 ((gi l_ y122).Prc)).getD 0)).Kind, (gi y115 ((mget y119 ((gi l_ y122).Prc)).getD 0)).Start, y122, (gi y115 ((mget y119 ((gi l_ y122).Prc)).getD 0)).Result⟩ : Api_Oper)) ((mget y119 ((gi l_ y122).Prc)).getD 0)).End, (gi l_ y122).N⟩ : Api_Oper)).length c117) kr (by rw [List.length_set])
    refine andH (Hold.of hS (bks := [10]) kr hD) ?_
    intro hH
    refine drawnDone kr ?_
    replace hS := hS.sl ⟨[(6, Sl a116 ((y115.set ((mget y119 ((gi l_ y122).Prc)).getD 0).toNat (⟨(gi y115 ((mget y119 ((gi l_ y122).Prc)).getD 0)).Prc, (gi y115 ((mget y119 ((gi l_ y122).Prc)).getD 0)).Kind, (gi y115 ((mget y119 ((gi l_ y122).Prc)).getD 0)).Start, y122, (gi y115 ((mget y119 ((gi l_ y122).Prc)).getD 0)).Result⟩ : Api_Oper)).set ((mget y119 ((gi l_ y122).Prc)).getD 0).toNat (⟨(gi (y115.set ((mget y119 ((gi l_ y122).Prc)).getD 0).toNat (⟨(gi y115 ((mget y119 ((gi l_ y122).Prc)).getD 0)).Prc, (gi y115 ((mget y119 ((gi l_ y122).Prc)).getD 0)).Kind, (gi y115 ((mget y119 ((gi l_ y122).Prc)).getD 0)).Start, y122, (gi y115 ((mget y119 ((gi l_ y122).Prc)).getD 0)).Result⟩ : Api_Oper)) ((mget y119 ((gi l_ y122).Prc)).getD 0)).Prc, (gi (y115.set ((mget y119 ((gi l_ y122).Prc)).getD 0).toNat (⟨(gi y115 ((mget y119 ((gi l_ y122).Prc)).getD 0)).Prc, (gi y115 ((mget y119 ((gi l_ y122).Prc)).getD 0)).Kind, (gi y115 ((mget y119 ((gi l_ y122).Prc)).getD 0)).Start, y122, (gi y115 ((mget y119 ((gi l_ y122).Prc)).getD 0)).Result⟩ : Api_Oper)) ((mget y119 ((gi l_ y122).Prc)).getD 0)).Kind, (gi (y115.set ((mget y119 ((gi l_ y122).Prc)).getD 0).toNat (⟨(gi y115 ((mget y119 ((gi l_ y122).Prc)).getD 0)).Prc, (gi y115 ((mget y119 ((gi l_ y122).Prc)).getD 0)).Kind, (gi y115 ((mget y119 ((gi l_ y122).Prc)).getD 0)).Start, y122, (gi y115 ((mget y119 ((gi l_ y122).Prc)).getD 0)).Result⟩ : Api_Oper)) ((mget y119 ((gi l_ y122).Prc)).getD 0)).Start, (gi (y115.set ((mget y119 ((gi l_ y122).Prc)).getD 0).toNat (⟨(gi y115 ((mget y119 ((gi l_ y122).Prc)).getD 0)).Prc, (gi y115 ((mget y119 ((gi l_ y122).Prc)).getD 0)).Kind, (gi y115 ((mget y119 ((gi l_ y122).Prc)).getD 0)).Start, y122, (gi y115 ((mget y119 ((gi l_ y122).Prc)).getD 0)).Result⟩ : Api_Oper)) ((mget y119 ((gi l_ y122).Prc)).getD 0)).End, (gi l_ y122).N⟩ : Api_Oper)) c117), (7, V (.map (some r105))), (20, Sl a1 l_ c1), (21, I (lN l_)), (22, I y122)], []⟩
    exact ⟨Z, _, ((y115.set ((mget y119 ((gi l_ y122).Prc)).getD 0).toNat (⟨(gi y115 ((mget y119 ((gi l_ y122).Prc)).getD 0)).Prc, (gi y115 ((mget y119 ((gi l_ y122).Prc)).getD 0)).Kind, (gi y115 ((mget y119 ((gi l_ y122).Prc)).getD 0)).Start, y122, (gi y115 ((mget y119 ((gi l_ y122).Prc)).getD 0)).Result⟩ : Api_Oper)).set ((mget y119 ((gi l_ y122).Prc)).getD 0).toNat (⟨(gi (y115.set ((mget y119 ((gi l_ y122).Prc)).getD 0).toNat (⟨(gi y115 ((mget y119 ((gi l_ y122).Prc)).getD 0)).Prc, (gi y115 ((mget y119 ((gi l_ y122).Prc)).getD 0)).Kind, (gi y115 ((mget y119 ((gi l_ y122).Prc)).getD 0)).Start, y122, (gi y115 ((mget y119 ((gi l_ y122).Prc)).getD 0)).Result⟩ : Api_Oper)) ((mget y119 ((gi l_ y122).Prc)).getD 0)).Prc, (gi (y115.set ((mget y119 ((gi l_ y122).Prc)).getD 0).toNat (⟨(gi y115 ((mget y119 ((gi l_ y122).Prc)).getD 0)).Prc, (gi y115 ((mget y119 ((gi l_ y122).Prc)).getD 0)).Kind, (gi y115 ((mget y119 ((gi l_ y122).Prc)).getD 0)).Start, y122, (gi y115 ((mget y119 ((gi l_ y122).Prc)).getD 0)).Result⟩ : Api_Oper)) ((mget y119 ((gi l_ y122).Prc)).getD 0)).Kind, (gi (y115.set ((mget y119 ((gi l_ y122).Prc)).getD 0).toNat (⟨(gi y115 ((mget y119 ((gi l_ y122).Prc)).getD 0)).Prc, (gi y115 ((mget y119 ((gi l_ y122).Prc)).getD 0)).Kind, (gi y115 ((mget y119 ((gi l_ y122).Prc)).getD 0)).Start, y122, (gi y115 ((mget y119 ((gi l_ y122).Prc)).getD 0)).Result⟩ : Api_Oper)) ((mget y119 ((gi l_ y122).Prc)).getD 0)).Start, (gi (y115.set ((mget y119 ((gi l_ y122).Prc)).getD 0).toNat (⟨(gi y115 ((mget y119 ((gi l_ y122).Prc)).getD 0)).Prc, (gi y115 ((mget y119 ((gi l_ y122).Prc)).getD 0)).Kind, (gi y115 ((mget y119 ((gi l_ y122).Prc)).getD 0)).Start, y122, (gi y115 ((mget y119 ((gi l_ y122).Prc)).getD 0)).Result⟩ : Api_Oper)) ((mget y119 ((gi l_ y122).Prc)).getD 0)).End, (gi l_ y122).N⟩ : Api_Oper)), y119, a116, c117, hm, hS.sl _, hO, h159, h120, h121⟩
   rintro a w163 ⟨Z, X162, y123, y127, a124, c125, hm, hS, hO, h126, h128, h129⟩
   unfold VC9_J2 at hm
   refine region (ePb T hS [(6, Sl a124 y123 c125), (7, V (.map (some r105))), (20, Sl a1 l_ c1), (21, I (lN l_)), (22, I (wR (y122 + 1)))] fun a hS => ?_)
   exact ⟨⟨y123, y127, wR (y122 + 1)⟩, ⟨Z, _, a124, c125, hm.1, hS.sl _, hO, h126, h128, h129⟩, hm.2⟩
  replace hm := hm.2 hb
  refine wexit (by rfl) ?_
  exact ⟨Z, _, y115, a116, c117, hm, hS.sl _, hO, h118⟩
 rintro a w167 ⟨Z, X166, y109, a110, c111, hm, hS, hO, h112⟩
 unfold VC9_J1 at hm
 refine rPb T hS [(2, Sl a110 y109 c111), (3, I 0)] fun a hS => ?_
 refine wret ?_
 obtain ⟨X113, hE, hF⟩ := h112.freeze (by decide)
 replace hS := hS.ev hE (xone_box kr)
 replace hO := hO.m2 hE
 have h114 := hF; clear hE hF
 exact fin T hS hO (fun c => c) rfl (r := [.slice a110 y109.length c111, .int .i64 0]) kr (fun X' hM hC => ⟨(y109, 0), hm, a110, c111, rfl, h114.m0 hM⟩)
theorem C9 (k23 : S23) (v : ∀ (l_ : List Api_Event), VC9 l_ (fun r => r = oper_Of l_)) : S9 := by
 intro w X l_ a1 c1   h1
 refine (W9 k23 w X l_ a1 c1   _ (v l_) h1).mono ?_
 rintro _ _ _ _ ⟨r, rfl, h⟩
 exact h
theorem W10 (k24 : S24) (k25 : S25) (k9 : S9) (w0) (X0) (c_ : Histtext_Case) (a1) (c1) (a2) (c2) (Q : Bool × Int -> Prop) (hm : VC10 c_ Q) (h1 : RS tApi_Row w0 X0 a1 c_.Object.Rows c1) (h2 : RS tApi_Event w0 X0 a2 c_.Events c2) :
  Ret Try.prog 10 #[.agg #[.int .i64 c_.Object.States, .int .i64 c_.Object.Kinds, .int .i64 c_.Object.Init, .slice a1 c_.Object.Rows.length c1, .slice a2 c_.Events.length c2]] xnone w0 X0 (fun w X' v => ∃ r, Q r /\ v = .tuple #[.bool r.1, .int .i64 r.2]) := by
 unfold VC10 at hm
 replace hm := hm (h1.sm kr)
 replace hm := hm (h2.sm kr)
 refine enter Try.func10 rfl (vals := [.agg #[.int .i64 c_.Object.States, .int .i64 c_.Object.Kinds, .int .i64 c_.Object.Init, .slice a1 c_.Object.Rows.length c1, .slice a2 c_.Events.length c2]]) kr ?_
 intro Z a hS hO hM
 replace h1 := h1.m0 hM
 replace h2 := h2.m0 hM
 refine rM T hS ⟨[(1, Pt 2 0)], [(2, (33, [I c_.Object.States, I c_.Object.Kinds, I c_.Object.Init, Sl a1 c_.Object.Rows c1, Sl a2 c_.Events c2]))]⟩ fun Z a w116 X117 hS hE hr => ?_
 replace hO := hO.m2 hE
 replace h1 := h1.m1 hE
 replace h2 := h2.m1 hE
 clear hE hr
 refine wseq ?_
 refine regO ?_
 refine oPb T hS 1 [(1, Pt 2 0), (7, V (.agg #[.int .i64 c_.Object.States, .int .i64 c_.Object.Kinds, .int .i64 c_.Object.Init, .slice a1 c_.Object.Rows.length c1, .slice a2 c_.Events.length c2]))] fun a hS => ?_
 obtain ⟨hq, hm⟩ := hm
 refine op1 (call hS kr kr hb24 kr (fun _ _ => rfl) (k24 _ _ c_ a1 c1 a2 c2 hq h1 h2) ?_)
 intro v101 a w102 X103 hE hp hS
 replace hO := hO.m2 hE
 replace h1 := h1.m1 hE
 replace h2 := h2.m1 hE
 obtain ⟨r104, hr⟩ : ∃ r, histtext_Check c_ = r := ⟨_, rfl⟩
 replace hm := hm r104 hr
 rw [hr] at hp
 clear hr
 subst hp
 refine ePb T hS [(1, Pt 2 0), (4, I r104)] fun a hS => ?_
 refine rPb T hS [(1, Pt 2 0), (4, I r104), (10, B (r104 != 0))] fun a hS => ?_
 refine wcond hS (b := (r104 != 0)) kr (fun hb => ?_) fun hb => ?_
 ·replace hm := hm.1 hb
  refine rP T hS ⟨[(2, B false), (3, I r104)], []⟩ fun a hS => ?_
  refine wret ?_
  exact fin T hS hO (fun c => c) rfl (r := [.bool false, .int .i64 r104]) kr (fun X' hM hC => ⟨(false, r104), hm, rfl⟩)
 replace hm := hm.2 hb
 refine wskip ?_
 refine regO ?_
 refine oPb T hS 2 [(1, Pt 2 0), (14, Sl a2 c_.Events c2)] fun a hS => ?_
 refine op1 (call hS kr kr hb9 kr (fun _ _ => rfl) (k9 _ _ c_.Events a2 c2 h2) ?_)
 intro v105 a w106 X107 hE hp hS
 replace hO := hO.m2 hE
 replace h1 := h1.m1 hE
 replace h2 := h2.m1 hE
 obtain ⟨a109, c110, hp, h111⟩ := hp
 obtain ⟨r108, hr⟩ : ∃ r, oper_Of c_.Events = r := ⟨_, rfl⟩
 replace hm := hm r108 hr
 rw [hr] at hp h111
 clear hr
 subst hp
 replace hm := hm (h111.sm kr)
 refine ePb T hS [(1, Pt 2 0), (5, Sl a109 r108.1 c110), (6, I r108.2)] fun a hS => ?_
 refine wseq ?_
 refine rPb T hS [(1, Pt 2 0), (5, Sl a109 r108.1 c110), (6, I r108.2), (19, B (r108.2 != 0))] fun a hS => ?_
 refine wcond hS (b := (r108.2 != 0)) kr (fun hb => ?_) fun hb => ?_
 ·replace hm := hm.1 hb
  refine rP T hS ⟨[(2, B false), (3, I r108.2)], []⟩ fun a hS => ?_
  refine wret ?_
  exact fin T hS hO (fun c => c) rfl (r := [.bool false, .int .i64 r108.2]) kr (fun X' hM hC => ⟨(false, r108.2), hm, rfl⟩)
 replace hm := hm.2 hb
 refine wskip ?_
 refine regO ?_
 refine oP T hS 3 ⟨[(22, V (.agg #[.int .i64 c_.Object.States, .int .i64 c_.Object.Kinds, .int .i64 c_.Object.Init, .slice a1 c_.Object.Rows.length c1])), (23, Sl a109 r108.1 c110)], []⟩ fun a hS => ?_
 obtain ⟨hq, hm⟩ := hm
 refine op1 (call hS kr kr hb25 kr (fun _ _ => rfl) (k25 _ _ c_.Object r108.1 a1 c1 a109 c110 hq h1 h111) ?_)
 intro v112 a w113 X114 hE hp hS
 replace hO := hO.m2 hE
 replace h1 := h1.m1 hE
 replace h111 := h111.m1 hE
 obtain ⟨r115, hr⟩ : ∃ r, search_Lin c_.Object r108.1 = r := ⟨_, rfl⟩
 replace hm := hm r115 hr
 rw [hr] at hp
 clear hr
 subst hp
 refine ePb T hS [(2, B r115.1), (3, I r115.2)] fun a hS => ?_
 refine wret ?_
 exact fin T hS hO (fun c => c) rfl (r := [.bool r115.1, .int .i64 r115.2]) kr (fun X' hM hC => ⟨(r115.1, r115.2), hm, rfl⟩)
theorem C10 (k24 : S24) (k25 : S25) (k9 : S9) (v : ∀ (c_ : Histtext_Case), preCa c_ -> VC10 c_ (fun r => r = shrink_Lin c_)) : S10 := by
 intro w X c_ a1 c1 a2 c2   hp h1 h2
 refine (W10 k24 k25 k9 w X c_ a1 c1 a2 c2   _ (v c_ hp) h1 h2).mono ?_
 rintro _ _ _ _ ⟨r, rfl, h⟩
 exact h
theorem W31 (w0) (X0) (c_ : Histtext_Case) (a1) (c1) (a2) (c2) (col1) (Q : Histtext_Case -> Prop) (hm : VC31 c_ Q) (h1 : RS tApi_Row w0 X0 a1 c_.Object.Rows c1) (h2 : RS tApi_Event w0 X0 a2 c_.Events c2) :
  Ret Try.prog 31 #[.agg #[.int .i64 c_.Object.States, .int .i64 c_.Object.Kinds, .int .i64 c_.Object.Init, .slice a1 c_.Object.Rows.length c1, .slice a2 c_.Events.length c2]] xnone w0 X0 (fun w X' v => ∃ r, Q r /\ ∃ ra1 rc1 ra2 rc2 rb1, v = .func (.func 48) #[] #[.pointer (some ⟨rb1, 0, none⟩)] /\ RS tApi_Row w X' ra1 r.Object.Rows rc1 /\ RS tApi_Event w X' ra2 r.Events rc2 /\ Cell w X' rb1 col1 33 [.int .i64 r.Object.States, .int .i64 r.Object.Kinds, .int .i64 r.Object.Init, .slice ra1 r.Object.Rows.length rc1, .slice ra2 r.Events.length rc2]) := by
 unfold VC31 at hm
 replace hm := hm (h1.sm kr)
 replace hm := hm (h2.sm kr)
 refine enter Try.func31 rfl (vals := [.agg #[.int .i64 c_.Object.States, .int .i64 c_.Object.Kinds, .int .i64 c_.Object.Init, .slice a1 c_.Object.Rows.length c1, .slice a2 c_.Events.length c2]]) kr ?_
 intro Z a hS hO hM
 replace h1 := h1.m0 hM
 replace h2 := h2.m0 hM
 refine rM T hS ⟨[(1, Pt 2 0)], [(2, (33, [I c_.Object.States, I c_.Object.Kinds, I c_.Object.Init, Sl a1 c_.Object.Rows c1, Sl a2 c_.Events c2]))]⟩ fun Z a w101 X102 hS hE hr => ?_
 replace hO := hO.m2 hE
 replace h1 := h1.m1 hE
 replace h2 := h2.m1 hE
 clear hE hr
 refine rPb T hS [(2, .f (.func 48) [] [.p 2 0])] fun a hS => ?_
 refine wret ?_
 exact fin T hS hO (zAd0 col1) rfl (r := [.func (.func 48) #[] #[.pointer (some ⟨Z 2, 0, none⟩)]]) kr (fun X' hM hC => ⟨c_, hm, a1, c1, a2, c2, (Z 2), rfl, h1.m0 hM, h2.m0 hM, ((hS.cell (id := 2) (t := 33) (cs := [I c_.Object.States, I c_.Object.Kinds, I c_.Object.Init, Sl a1 c_.Object.Rows c1, Sl a2 c_.Events c2]) kr).out (f := (zAd0 col1)) hC kr kr rfl)⟩)
theorem C31 (v : ∀ (c_ : Histtext_Case), VC31 c_ (fun r => r = shrink_asker c_)) : S31 := by
 intro w X c_ a1 c1 a2 c2 col1  h1 h2
 refine (W31 w X c_ a1 c1 a2 c2 col1  _ (v c_) h1 h2).mono ?_
 rintro _ _ _ _ ⟨r, rfl, h⟩
 exact h
theorem W48 (k10 : S10) (w0) (X0) (n_ : Int) (cap1 : Histtext_Case) (a1) (c1) (a2) (c2) (b1) (i1) (Q : Bool -> Prop) (hm : VC48 n_ cap1 Q) (h1 : RS tApi_Row w0 X0 a1 cap1.Object.Rows c1) (h2 : RS tApi_Event w0 X0 a2 cap1.Events c2) (hc1 : Cell w0 X0 b1 i1 33 [.int .i64 cap1.Object.States, .int .i64 cap1.Object.Kinds, .int .i64 cap1.Object.Init, .slice a1 cap1.Object.Rows.length c1, .slice a2 cap1.Events.length c2]) (hA : Apart [i1]) :
  Ret Try.prog 48 #[.int .i64 n_, .pointer (some ⟨b1, 0, none⟩)] (pR [i1]) w0 X0 (fun w X' v => ∃ r, Q r /\ v = .bool r /\ Cell w X' b1 i1 33 [.int .i64 cap1.Object.States, .int .i64 cap1.Object.Kinds, .int .i64 cap1.Object.Init, .slice a1 cap1.Object.Rows.length c1, .slice a2 cap1.Events.length c2]) := by
 unfold VC48 at hm
 replace hm := hm (h1.sm kr)
 replace hm := hm (h2.sm kr)
 refine enterR Try.func48 rfl (f0of [(i1, 901)]) (fun id => (bif Nat.beq id 901 then b1 else 0)) (args := [I n_, Pt 901 0]) (bxs := [(901, (33, [I cap1.Object.States, I cap1.Object.Kinds, I cap1.Object.Init, Sl a1 cap1.Object.Rows c1, Sl a2 cap1.Events c2]))]) kr rfl (BoxesOK.cons kr (hc1.map (f0of_at 0 hA.1 rfl)) BoxesOK.nil) (f0of_0 (fun q hq => (hA.2 q.1 (List.mem_map.2 ⟨q, hq, rfl⟩)).1)) ?_
 intro a hS hO hM
 have hP : Pin [(901, b1)] (fun id => (bif Nat.beq id 901 then b1 else 0)) := by intro q hq; simp at hq; rcases hq with rfl <;> rfl
 generalize (fun id => (bif Nat.beq id 901 then b1 else 0)) = Z at hS hP
 clear hc1
 replace h1 := h1.m0 hM
 replace h2 := h2.m0 hM
 refine rPb T hS [(0, I n_), (1, Pt 901 0)] fun a hS => ?_
 refine drawnSX [901] mixed hS ?_
 intro w101 X102 hS hE hD hH
 replace hO := hO.m2 hE
 replace h1 := h1.m1 hE
 replace h2 := h2.m1 hE
 refine tkb T [0, 2, 4, 1, 3] [901] hS hH #[true, true, true, true, true, false, false, false, false, false, false, false, false] 8 [(8, V (.agg #[.int .i64 cap1.Object.States, .int .i64 cap1.Object.Kinds, .int .i64 cap1.Object.Init, .slice a1 cap1.Object.Rows.length c1])), (10, Sl a2 cap1.Events c2), (11, I n_)] fun a hS => ?_
 obtain ⟨hq, hm⟩ := hm
 refine dslice0 (E := 54) (kh := .i64) T 5 hS kr kr kr (by rfl) kr hH kr kr h2 kr kr hq.1 hq.2 ?_
 intro a103 c104 a h105 hS
 refine tkb T [6] [901] hS hH #[true, true, true, true, true, true, true, false, false, false, false, false, false] 6 [(13, V (.agg #[.int .i64 cap1.Object.States, .int .i64 cap1.Object.Kinds, .int .i64 cap1.Object.Init, .slice a1 cap1.Object.Rows.length c1, .slice a103 (cap1.Events.take n_.toNat).length c104]))] fun a hS => ?_
 obtain ⟨hq, hm⟩ := hm
 refine only 7 kr (by rfl) (call hS kr kr hb10 kr (fun _ _ => rfl) (k10 _ _ (⟨cap1.Object, cap1.Events.take n_.toNat⟩ : Histtext_Case) a1 c1 a103 c104 hq h1 h105) ?_)
 intro v106 a w107 X108 hE hp hS
 replace hO := hO.m2 hE
 replace hD := hD.ev hE rfl
 replace h1 := h1.m1 hE
 replace h2 := h2.m1 hE
 replace h105 := h105.m1 hE
 obtain ⟨r109, hr⟩ : ∃ r, shrink_Lin (⟨cap1.Object, cap1.Events.take n_.toNat⟩ : Histtext_Case) = r := ⟨_, rfl⟩
 replace hm := hm r109 hr
 rw [hr] at hp
 clear hr
 subst hp
 replace hS := hS.slb [(13, V (.agg #[.int .i64 cap1.Object.States, .int .i64 cap1.Object.Kinds, .int .i64 cap1.Object.Init, .slice a1 cap1.Object.Rows.length c1, .slice a103 (cap1.Events.take n_.toNat).length c104])), (14, V (.tuple #[.bool r109.1, .int .i64 r109.2]))]
 refine andH (Hold.of hS (bks := [901]) kr hD) ?_
 intro hH
 refine tkb T [8, 9, 10, 11, 12] [901] hS hH (tts 13) 0 [(4, B r109.1), (5, I r109.2)] fun a hS => ?_
 refine drawnDone kr ?_
 replace hS := hS.slb [(4, B r109.1), (5, I r109.2)]
 refine rPb T hS [(3, B ((r109.2 == 0) && (!r109.1)))] (sp := [19]) fun a hS => ?_
 refine wret ?_
 exact finR T hS hO (fun c h => f0of_zero kr h) (fun c h => f0of_else (l := [(i1, 901)]) h) (f1of [(i1, 901)]) rfl (r := [.bool ((r109.2 == 0) && (!r109.1))]) kr (fun X' hM hC => ⟨((r109.2 == 0) && (!r109.1)), hm, rfl, ((hS.cell (id := 901) (t := 33) (cs := [I cap1.Object.States, I cap1.Object.Kinds, I cap1.Object.Init, Sl a1 cap1.Object.Rows c1, Sl a2 cap1.Events c2]) kr).out (f := (f1of [(i1, 901)])) hC kr kr (hP.at 0 rfl))⟩)
theorem C48 (k10 : S10) (v : ∀ (n_ : Int) (cap1 : Histtext_Case), preAs n_ cap1 -> VC48 n_ cap1 (fun r => r = shrink_asker_1 n_ cap1)) : S48 := by
 intro w X n_ cap1 a1 c1 a2 c2  b1 i1 hp h1 h2 hc1 hA
 refine (W48 k10 w X n_ cap1 a1 c1 a2 c2  b1 i1 _ (v n_ cap1 hp) h1 h2 hc1 hA).mono ?_
 rintro _ _ _ _ ⟨r, rfl, h⟩
 exact h
theorem W30_48 (k48 : S48) (w0) (X0) (n_ : Int) (cap1 : Histtext_Case) (a1) (c1) (a2) (c2) (b1) (i1) (Q : Int -> Prop) (hm : VC30_48 n_ cap1 Q) (h1 : RS tApi_Row w0 X0 a1 cap1.Object.Rows c1) (h2 : RS tApi_Event w0 X0 a2 cap1.Events c2) (hc1 : Cell w0 X0 b1 i1 33 [.int .i64 cap1.Object.States, .int .i64 cap1.Object.Kinds, .int .i64 cap1.Object.Init, .slice a1 cap1.Object.Rows.length c1, .slice a2 cap1.Events.length c2]) (hA : Apart [i1]) :
  Ret Try.prog 30 #[.int .i64 n_, .func (.func 48) #[] #[.pointer (some ⟨b1, 0, none⟩)]] (pR [i1]) w0 X0 (fun w X' v => ∃ r, Q r /\ v = .int .i64 r /\ Cell w X' b1 i1 33 [.int .i64 cap1.Object.States, .int .i64 cap1.Object.Kinds, .int .i64 cap1.Object.Init, .slice a1 cap1.Object.Rows.length c1, .slice a2 cap1.Events.length c2]) := by
 unfold VC30_48 at hm
 replace hm := hm (h1.sm kr)
 replace hm := hm (h2.sm kr)
 refine enterR Try.func30 rfl (f0of [(i1, 901)]) (fun id => (bif Nat.beq id 901 then b1 else 0)) (args := [I n_, .f (.func 48) [] [.p 901 0]]) (bxs := [(901, (33, [I cap1.Object.States, I cap1.Object.Kinds, I cap1.Object.Init, Sl a1 cap1.Object.Rows c1, Sl a2 cap1.Events c2]))]) kr rfl (BoxesOK.cons kr (hc1.map (f0of_at 0 hA.1 rfl)) BoxesOK.nil) (f0of_0 (fun q hq => (hA.2 q.1 (List.mem_map.2 ⟨q, hq, rfl⟩)).1)) ?_
 intro a hS hO hM
 have hP : Pin [(901, b1)] (fun id => (bif Nat.beq id 901 then b1 else 0)) := by intro q hq; simp at hq; rcases hq with rfl <;> rfl
 generalize (fun id => (bif Nat.beq id 901 then b1 else 0)) = Z at hS hP
 clear hc1
 replace h1 := h1.m0 hM
 replace h2 := h2.m0 hM
 refine rPb T hS [(0, I n_), (1, .f (.func 48) [] [.p 901 0])] fun a hS => ?_
 refine rPb T hS [(1, .f (.func 48) [] [.p 901 0]), (5, I 0), (6, I n_)] fun a hS => ?_
 refine wcut (fun a w => ∃ (Z : Nat -> Nat) (X : Nat -> Nat) (y101 : Int), VC30_48_J1 Q y101 /\ St Try.f30.ntmps ⟨[(5, I y101)], [(901, (33, [I cap1.Object.States, I cap1.Object.Kinds, I cap1.Object.Init, Sl a1 cap1.Object.Rows c1, Sl a2 cap1.Events c2]))]⟩ Z a w X /\ OldR (f0of [(i1, 901)]) w0 X0 w X /\ Pin [(901, b1)] Z /\ RS tApi_Row w X a1 cap1.Object.Rows c1 /\ RS tApi_Event w X a2 cap1.Events c2) ?_ ?_
 ·refine wblock ?_
  obtain ⟨I1, μ1, hm0, hm⟩ := hm
  refine wloop (σ := Int × Int) (fun s a w => ∃ Z X, I1 s.1 s.2 /\ St Try.f30.ntmps ⟨[(1, .f (.func 48) [] [.p 901 0]), (5, I s.1), (6, I s.2)], [(901, (33, [I cap1.Object.States, I cap1.Object.Kinds, I cap1.Object.Init, Sl a1 cap1.Object.Rows c1, Sl a2 cap1.Events c2]))]⟩ Z a w X /\ OldR (f0of [(i1, 901)]) w0 X0 w X /\ Pin [(901, b1)] Z /\ RS tApi_Row w X a1 cap1.Object.Rows c1 /\ RS tApi_Event w X a2 cap1.Events c2) (fun s => μ1 s.1 s.2) (⟨0, n_⟩) ?_ ?_
  ·exact ⟨Z, _, hm0, hS.sl _, hO, hP, h1, h2⟩
  rintro ⟨y104, y105⟩ a w114 ⟨Z, X113, hI, hS, hO, hP, h106, h107⟩
  replace hm := hm y104 y105 hI
  clear hI hm0
  refine wseq ?_
  refine rPb T hS [(1, .f (.func 48) [] [.p 901 0]), (5, I y104), (6, I y105), (11, B (decide (y104 < y105)))] fun a hS => ?_
  refine wcond hS (b := decide (y104 < y105)) kr (fun hb => ?_) fun hb => ?_
  ·replace hm := hm.1 hb
   refine wskip ?_
   refine wblock ?_
   refine rPb T hS [(1, .f (.func 48) [] [.p 901 0]), (5, I y104), (6, I y105), (7, I (wR (((IntKind.u64.wrap (wR (y104 + y105)))).fdiv (2 ^ 1))))] fun a hS => ?_
   refine regO ?_
   refine oPb T hS 2 [(1, .f (.func 48) [] [.p 901 0]), (5, I y104), (6, I y105), (7, I (wR (((IntKind.u64.wrap (wR (y104 + y105)))).fdiv (2 ^ 1)))), (18, .f (.func 48) [] [.p 901 0]), (19, I (wR (((IntKind.u64.wrap (wR (y104 + y105)))).fdiv (2 ^ 1))))] fun a hS => ?_
   obtain ⟨hq, hm⟩ := hm
   refine op1 (callCR (fi := []) (cp := [.p 901 0]) hS kr kr hb48 kr kr (k48 _ _ (wR (((IntKind.u64.wrap (wR (y104 + y105)))).fdiv (2 ^ 1))) cap1 a1 c1 a2 c2 (Z 901) 901 hq h106 h107 (hS.cell (id := 901) (t := 33) (cs := [I cap1.Object.States, I cap1.Object.Kinds, I cap1.Object.Init, Sl a1 cap1.Object.Rows c1, Sl a2 cap1.Events c2]) kr) ⟨by decide, by decide⟩) ?_)
   intro v108 a w109 X110 hE hp hS
   replace hO := hO.m2 hE
   replace h106 := h106.m1 hE
   replace h107 := h107.m1 hE
   obtain ⟨hp, hc112⟩ := hp
   obtain ⟨r111, hr⟩ : ∃ r, shrink_asker_1 (wR (((IntKind.u64.wrap (wR (y104 + y105)))).fdiv (2 ^ 1))) cap1 = r := ⟨_, rfl⟩
   replace hm := hm r111 hr
   rw [hr] at hp
   clear hr
   subst hp
   replace hS := hS.addbox (id := 901) (t := 33) (cs := [I cap1.Object.States, I cap1.Object.Kinds, I cap1.Object.Init, Sl a1 cap1.Object.Rows c1, Sl a2 cap1.Events c2]) kr hc112
   clear hc112
   refine ePb T hS [(1, .f (.func 48) [] [.p 901 0]), (5, I y104), (6, I y105), (7, I (wR (((IntKind.u64.wrap (wR (y104 + y105)))).fdiv (2 ^ 1)))), (21, B (!r111))] fun a hS => ?_
   refine wcond hS (b := (!r111)) kr (fun hb => ?_) fun hb => ?_
   ·replace hm := hm.1 hb
    refine region (ePb T hS [(1, .f (.func 48) [] [.p 901 0]), (5, I (wR ((wR (((IntKind.u64.wrap (wR (y104 + y105)))).fdiv (2 ^ 1))) + 1))), (6, I y105)] fun a hS => ?_)
    exact ⟨⟨wR ((wR (((IntKind.u64.wrap (wR (y104 + y105)))).fdiv (2 ^ 1))) + 1), y105⟩, ⟨Z, _, hm.1, hS.sl _, hO, hP, h106, h107⟩, hm.2⟩
   replace hm := hm.2 hb
   refine region (ePb T hS [(1, .f (.func 48) [] [.p 901 0]), (5, I y104), (6, I (wR (((IntKind.u64.wrap (wR (y104 + y105)))).fdiv (2 ^ 1))))] fun a hS => ?_)
   exact ⟨⟨y104, wR (((IntKind.u64.wrap (wR (y104 + y105)))).fdiv (2 ^ 1))⟩, ⟨Z, _, hm.1, hS.sl _, hO, hP, h106, h107⟩, hm.2⟩
  replace hm := hm.2 hb
  refine wexit (by rfl) ?_
  exact ⟨Z, _, y104, hm, hS.sl _, hO, hP, h106, h107⟩
 rintro a w116 ⟨Z, X115, y101, hm, hS, hO, hP, h102, h103⟩
 unfold VC30_48_J1 at hm
 refine rPb T hS [(4, I y101)] fun a hS => ?_
 refine wret ?_
 exact finR T hS hO (fun c h => f0of_zero kr h) (fun c h => f0of_else (l := [(i1, 901)]) h) (f1of [(i1, 901)]) rfl (r := [.int .i64 y101]) kr (fun X' hM hC => ⟨y101, hm, rfl, ((hS.cell (id := 901) (t := 33) (cs := [I cap1.Object.States, I cap1.Object.Kinds, I cap1.Object.Init, Sl a1 cap1.Object.Rows c1, Sl a2 cap1.Events c2]) kr).out (f := (f1of [(i1, 901)])) hC kr kr (hP.at 0 rfl))⟩)
theorem C30_48 (k48 : S48) (v : ∀ (n_ : Int) (cap1 : Histtext_Case), preBs n_ cap1 -> VC30_48 n_ cap1 (fun r => r = sort_Search_shrink_asker_1 n_ cap1)) : S30_48 := by
 intro w X n_ cap1 a1 c1 a2 c2  b1 i1 hp h1 h2 hc1 hA
 refine (W30_48 k48 w X n_ cap1 a1 c1 a2 c2  b1 i1 _ (v n_ cap1 hp) h1 h2 hc1 hA).mono ?_
 rintro _ _ _ _ ⟨r, rfl, h⟩
 exact h
theorem W12 (k10 : S10) (k30_48 : S30_48) (k31 : S31) (w0) (X0) (c_ : Histtext_Case) (a1) (c1) (a2) (c2) (Q : Int × Int -> Prop) (hm : VC12 c_ Q) (h1 : RS tApi_Row w0 X0 a1 c_.Object.Rows c1) (h2 : RS tApi_Event w0 X0 a2 c_.Events c2) :
  Ret Try.prog 12 #[.agg #[.int .i64 c_.Object.States, .int .i64 c_.Object.Kinds, .int .i64 c_.Object.Init, .slice a1 c_.Object.Rows.length c1, .slice a2 c_.Events.length c2]] xnone w0 X0 (fun w X' v => ∃ r, Q r /\ v = .tuple #[.int .i64 r.1, .int .i64 r.2]) := by
 unfold VC12 at hm
 replace hm := hm (h1.sm kr)
 replace hm := hm (h2.sm kr)
 refine enter Try.func12 rfl (vals := [.agg #[.int .i64 c_.Object.States, .int .i64 c_.Object.Kinds, .int .i64 c_.Object.Init, .slice a1 c_.Object.Rows.length c1, .slice a2 c_.Events.length c2]]) kr ?_
 intro Z a hS hO hM
 replace h1 := h1.m0 hM
 replace h2 := h2.m0 hM
 refine rM T hS ⟨[(1, Pt 2 0)], [(2, (33, [I c_.Object.States, I c_.Object.Kinds, I c_.Object.Init, Sl a1 c_.Object.Rows c1, Sl a2 c_.Events c2]))]⟩ fun Z a w125 X126 hS hE hr => ?_
 replace hO := hO.m2 hE
 replace h1 := h1.m1 hE
 replace h2 := h2.m1 hE
 clear hE hr
 refine regO ?_
 refine oP T hS 1 ⟨[(1, Pt 2 0), (6, V (.agg #[.int .i64 c_.Object.States, .int .i64 c_.Object.Kinds, .int .i64 c_.Object.Init, .slice a1 c_.Object.Rows.length c1, .slice a2 c_.Events.length c2]))], [(2, (33, [I c_.Object.States, I c_.Object.Kinds, I c_.Object.Init, Sl a1 c_.Object.Rows c1, Sl a2 c_.Events c2]))]⟩ fun a hS => ?_
 obtain ⟨hq, hm⟩ := hm
 refine op1 (call hS kr kr hb10 kr (fun _ _ => rfl) (k10 _ _ c_ a1 c1 a2 c2 hq h1 h2) ?_)
 intro v101 a w102 X103 hE hp hS
 replace hO := hO.m2 hE
 replace h1 := h1.m1 hE
 replace h2 := h2.m1 hE
 obtain ⟨r104, hr⟩ : ∃ r, shrink_Lin c_ = r := ⟨_, rfl⟩
 replace hm := hm r104 hr
 rw [hr] at hp
 clear hr
 subst hp
 refine eP T hS ⟨[(1, Pt 2 0), (3, I r104.2), (4, B r104.1)], [(2, (33, [I c_.Object.States, I c_.Object.Kinds, I c_.Object.Init, Sl a1 c_.Object.Rows c1, Sl a2 c_.Events c2]))]⟩ fun a hS => ?_
 refine wseq ?_
 refine wblock ?_
 refine rP T hS ⟨[(1, Pt 2 0), (3, I r104.2), (4, B r104.1), (10, B (r104.2 != 0))], [(2, (33, [I c_.Object.States, I c_.Object.Kinds, I c_.Object.Init, Sl a1 c_.Object.Rows c1, Sl a2 c_.Events c2]))]⟩ fun a hS => ?_
 refine wcond hS (b := (r104.2 != 0)) kr (fun hb => ?_) fun hb => ?_
 ·replace hm := hm.1 hb
  refine rP T hS ⟨[(2, I 0), (3, I r104.2)], []⟩ fun a hS => ?_
  refine wret ?_
  exact fin T hS hO (fun c => c) rfl (r := [.int .i64 0, .int .i64 r104.2]) kr (fun X' hM hC => ⟨(0, r104.2), hm, rfl⟩)
 replace hm := hm.2 hb
 refine rP T hS ⟨[(1, Pt 2 0), (14, B r104.1)], [(2, (33, [I c_.Object.States, I c_.Object.Kinds, I c_.Object.Init, Sl a1 c_.Object.Rows c1, Sl a2 c_.Events c2]))]⟩ fun a hS => ?_
 refine wcond hS (b := r104.1) kr (fun hb => ?_) fun hb => ?_
 ·replace hm := hm.1 hb
  refine rP T hS ⟨[(2, I 0), (3, I 41)], []⟩ fun a hS => ?_
  refine wret ?_
  exact fin T hS hO (fun c => c) rfl (r := [.int .i64 0, .int .i64 41]) kr (fun X' hM hC => ⟨(0, 41), hm, rfl⟩)
 replace hm := hm.2 hb
 refine wskip ?_
 refine drawnSX [2] mixed hS ?_
 intro w105 X106 hS hE hD hH
 replace hO := hO.m2 hE
 replace h1 := h1.m1 hE
 replace h2 := h2.m1 hE
 refine tk T [0, 3, 1, 2] [2] hS hH #[true, true, true, true, false, false, false, false] 4 ⟨[(18, I (lN c_.Events)), (19, V (.agg #[.int .i64 c_.Object.States, .int .i64 c_.Object.Kinds, .int .i64 c_.Object.Init, .slice a1 c_.Object.Rows.length c1, .slice a2 c_.Events.length c2]))], [(2, (33, [I c_.Object.States, I c_.Object.Kinds, I c_.Object.Init, Sl a1 c_.Object.Rows c1, Sl a2 c_.Events c2]))]⟩ fun a hS => ?_
 refine only 4 kr (by rfl) (call hS kr kr hb31 kr (fun _ _ => rfl) (k31 _ _ c_ a1 c1 a2 c2 701 h1 h2) ?_)
 intro v107 a w108 X109 hE hp hS
 replace hO := hO.m2 hE
 replace hD := hD.ev hE rfl
 replace h1 := h1.m1 hE
 replace h2 := h2.m1 hE
 obtain ⟨a111, c112, a114, c115, b117, hp, h113, h116, hc118⟩ := hp
 obtain ⟨r110, hr⟩ : ∃ r, shrink_asker c_ = r := ⟨_, rfl⟩
 replace hm := hm r110 hr
 rw [hr] at h113 h116 hc118
 clear hr
 subst hp
 replace hm := hm (h113.sm kr)
 replace hm := hm (h116.sm kr)
 replace hS := hS.newbox (id := 701) (t := 33) (cs := [I r110.Object.States, I r110.Object.Kinds, I r110.Object.Init, Sl a111 r110.Object.Rows c112, Sl a114 r110.Events c115]) kr kr hc118 rfl
 replace hS := hS.convS (t := 20) (x := V (.func (.func 48) #[] #[.pointer (some ⟨b117, 0, none⟩)])) (y := .f (.func 48) [] [.p 701 0]) kr rfl
 have hr119 : ∀ id, id ≠ 701 -> (upd Z 701 b117) id = Z id := fun id h => upd_ne _ h
 generalize (upd Z 701 b117) = Z at hS hr119
 clear hc118
 replace hS := hS.sl ⟨[(18, I (lN c_.Events)), (19, V (.agg #[.int .i64 c_.Object.States, .int .i64 c_.Object.Kinds, .int .i64 c_.Object.Init, .slice a1 c_.Object.Rows.length c1, .slice a2 c_.Events.length c2])), (20, .f (.func 48) [] [.p 701 0])], [(2, (33, [I c_.Object.States, I c_.Object.Kinds, I c_.Object.Init, Sl a1 c_.Object.Rows c1, Sl a2 c_.Events c2])), (701, (33, [I r110.Object.States, I r110.Object.Kinds, I r110.Object.Init, Sl a111 r110.Object.Rows c112, Sl a114 r110.Events c115]))]⟩
 refine andH ((Hold.of hS (bks := [2]) kr hD).rho hr119 kr) ?_
 intro hH
 obtain ⟨hq, hm⟩ := hm
 refine only 5 kr (by rfl) (callR hS kr kr hb30 kr (k30_48 _ _ (lN c_.Events) r110 a111 c112 a114 c115 (Z 701) 701 hq h113 h116 (hS.cell (id := 701) (t := 33) (cs := [I r110.Object.States, I r110.Object.Kinds, I r110.Object.Init, Sl a111 r110.Object.Rows c112, Sl a114 r110.Events c115]) kr) ⟨by decide, by decide⟩) ?_)
 intro v120 a w121 X122 hE hp hS
 replace hO := hO.m2 hE
 replace hD := hD.ev hE rfl
 replace h1 := h1.m1 hE
 replace h2 := h2.m1 hE
 replace h113 := h113.m1 hE
 replace h116 := h116.m1 hE
 obtain ⟨hp, hc124⟩ := hp
 obtain ⟨r123, hr⟩ : ∃ r, sort_Search_shrink_asker_1 (lN c_.Events) r110 = r := ⟨_, rfl⟩
 replace hm := hm r123 hr
 rw [hr] at hp
 clear hr
 subst hp
 replace hS := hS.addbox (id := 701) (t := 33) (cs := [I r110.Object.States, I r110.Object.Kinds, I r110.Object.Init, Sl a111 r110.Object.Rows c112, Sl a114 r110.Events c115]) kr hc124
 clear hc124
 replace hS := hS.sl ⟨[(18, I (lN c_.Events)), (19, V (.agg #[.int .i64 c_.Object.States, .int .i64 c_.Object.Kinds, .int .i64 c_.Object.Init, .slice a1 c_.Object.Rows.length c1, .slice a2 c_.Events.length c2])), (20, .f (.func 48) [] [.p 701 0]), (21, I r123)], [(2, (33, [I c_.Object.States, I c_.Object.Kinds, I c_.Object.Init, Sl a1 c_.Object.Rows c1, Sl a2 c_.Events c2])), (701, (33, [I r110.Object.States, I r110.Object.Kinds, I r110.Object.Init, Sl a111 r110.Object.Rows c112, Sl a114 r110.Events c115]))]⟩
 refine andH ((Hold.of hS (bks := [2]) kr hD).rho hr119 kr) ?_
 intro hH
 refine takeZ T hr119 kr [6, 7] [2] [2, 3] hS kr kr kr hH (listed' := #[true, true, true, true, true, true, true, true]) (fuel := 0) (sy' := ⟨[(2, I r123), (3, I 0)], [(2, (33, [I c_.Object.States, I c_.Object.Kinds, I c_.Object.Init, Sl a1 c_.Object.Rows c1, Sl a2 c_.Events c2])), (701, (33, [I r110.Object.States, I r110.Object.Kinds, I r110.Object.Init, Sl a111 r110.Object.Rows c112, Sl a114 r110.Events c115]))]⟩) kr (by rfl) ?_
 intro a hS
 refine drawnDone kr ?_
 replace hS := hS.sl ⟨[(2, I r123), (3, I 0)], []⟩
 refine wret ?_
 exact fin T hS hO (fun c => c) rfl (r := [.int .i64 r123, .int .i64 0]) kr (fun X' hM hC => ⟨(r123, 0), hm, rfl⟩)
theorem C12 (k10 : S10) (k30_48 : S30_48) (k31 : S31) (v : ∀ (c_ : Histtext_Case), preCa c_ -> VC12 c_ (fun r => r = shrink_Head c_)) : S12 := by
 intro w X c_ a1 c1 a2 c2   hp h1 h2
 refine (W12 k10 k30_48 k31 w X c_ a1 c1 a2 c2   _ (v c_ hp) h1 h2).mono ?_
 rintro _ _ _ _ ⟨r, rfl, h⟩
 exact h
theorem W49 (w0) (X0) (s_ : List Int) (v_ : Int) (a1) (c1) (Q : Int -> Prop) (hm : VC49 s_ v_ Q) (h1 : RS tI w0 X0 a1 s_ c1) :
  Ret Try.prog 49 #[.slice a1 s_.length c1, .int .i64 v_] xnone w0 X0 (fun w X' v => ∃ r, Q r /\ v = .int .i64 r) := by
 unfold VC49 at hm
 replace hm := hm (h1.sm kr)
 refine enter Try.func49 rfl (vals := [.slice a1 s_.length c1, .int .i64 v_]) kr ?_
 intro Z a hS hO hM
 replace h1 := h1.m0 hM
 refine rPb T hS [(0, Sl a1 s_ c1), (1, I v_)] fun a hS => ?_
 refine wcut (fun a w => ∃ Z X, VC49_J1 Q /\ St Try.f49.ntmps ⟨[], []⟩ Z a w X /\ Old w0 X0 w X) ?_ ?_
 ·refine rPb T hS [(0, Sl a1 s_ c1), (1, I v_), (7, I (lN s_)), (8, I 0)] fun a hS => ?_
  refine wblock ?_
  obtain ⟨I1, μ1, hm0, hm⟩ := hm
  refine wloop (σ := Int) (fun s a w => ∃ Z X, I1 s /\ St Try.f49.ntmps ⟨[(0, Sl a1 s_ c1), (1, I v_), (7, I (lN s_)), (8, I s)], []⟩ Z a w X /\ Old w0 X0 w X /\ RS tI w X a1 s_ c1) (fun s => μ1 s) (0) ?_ ?_
  ·exact ⟨Z, _, hm0, hS.sl _, hO, h1⟩
  rintro y102 a w107 ⟨Z, X106, hI, hS, hO, h101⟩
  replace hm := hm y102 hI
  clear hI hm0
  refine rPb T hS [(0, Sl a1 s_ c1), (1, I v_), (7, I (lN s_)), (8, I y102), (9, B (decide (y102 < (lN s_))))] fun a hS => ?_
  refine wseq ?_
  refine wcond hS (b := decide (y102 < (lN s_))) kr (fun hb => ?_) fun hb => ?_
  ·replace hm := hm.1 hb
   refine wskip (wseq ?_)
   refine wblock ?_
   refine rPb T hS [(0, Sl a1 s_ c1), (1, I v_), (5, I y102), (7, I (lN s_)), (8, I y102)] fun a hS => ?_
   refine regO ?_
   refine oPb T hS 3 [(0, Sl a1 s_ c1), (1, I v_), (5, I y102), (7, I (lN s_)), (8, I y102), (11, I v_), (12, Sl a1 s_ c1), (13, I y102)] fun a hS => ?_
   obtain ⟨hq, hm⟩ := hm
   refine op1 (index (e := 3) (k := .i64) T hS kr kr kr kr h101 kr kr hq.1 hq.2 ?_)
   intro A103 a h104 hS
   refine op1 (load1 T hS kr kr kr h104 rfl kr ?_)
   intro v105 a hv hS
   cases hv
   refine ePb T hS [(0, Sl a1 s_ c1), (1, I v_), (5, I y102), (7, I (lN s_)), (8, I y102), (16, B (v_ == (gi s_ y102)))] fun a hS => ?_
   refine wcond hS (b := (v_ == (gi s_ y102))) kr (fun hb => ?_) fun hb => ?_
   ·replace hm := hm.1 hb
    refine rPb T hS [(4, I y102)] fun a hS => ?_
    refine wret ?_
    exact fin T hS hO (fun c => c) rfl (r := [.int .i64 y102]) kr (fun X' hM hC => ⟨y102, hm, rfl⟩)
   replace hm := hm.2 hb
   refine wskip ?_
   refine region (ePb T hS [(0, Sl a1 s_ c1), (1, I v_), (7, I (lN s_)), (8, I (wR (y102 + 1)))] fun a hS => ?_)
   exact ⟨wR (y102 + 1), ⟨Z, _, hm.1, hS.sl _, hO, h101⟩, hm.2⟩
  replace hm := hm.2 hb
  refine wexit (by rfl) ?_
  exact ⟨Z, _, hm, hS.sl _, hO⟩
 rintro a w109 ⟨Z, X108, hm, hS, hO⟩
 unfold VC49_J1 at hm
 refine rPb T hS [(4, I (-1))] fun a hS => ?_
 refine wret ?_
 exact fin T hS hO (fun c => c) rfl (r := [.int .i64 (-1)]) kr (fun X' hM hC => ⟨(-1), hm, rfl⟩)
theorem C49 (v : ∀ (s_ : List Int) (v_ : Int), VC49 s_ v_ (fun r => r = slices_Index_int_int s_ v_)) : S49 := by
 intro w X s_ v_ a1 c1   h1
 refine (W49 w X s_ v_ a1 c1   _ (v s_ v_) h1).mono ?_
 rintro _ _ _ _ ⟨r, rfl, h⟩
 exact h
theorem W35 (k49 : S49) (w0) (X0) (s_ : List Int) (v_ : Int) (a1) (c1) (Q : Bool -> Prop) (hm : VC35 s_ v_ Q) (h1 : RS tI w0 X0 a1 s_ c1) :
  Ret Try.prog 35 #[.slice a1 s_.length c1, .int .i64 v_] xnone w0 X0 (fun w X' v => ∃ r, Q r /\ v = .bool r) := by
 unfold VC35 at hm
 replace hm := hm (h1.sm kr)
 refine enter Try.func35 rfl (vals := [.slice a1 s_.length c1, .int .i64 v_]) kr ?_
 intro Z a hS hO hM
 replace h1 := h1.m0 hM
 refine rPb T hS [(0, Sl a1 s_ c1), (1, I v_)] fun a hS => ?_
 refine regO ?_
 refine oPb T hS 2 [(5, Sl a1 s_ c1), (6, I v_)] fun a hS => ?_
 refine op1 (call hS kr kr hb49 kr (fun _ _ => rfl) (k49 _ _ s_ v_ a1 c1 h1) ?_)
 intro v101 a w102 X103 hE hp hS
 replace hO := hO.m2 hE
 replace h1 := h1.m1 hE
 obtain ⟨r104, hr⟩ : ∃ r, slices_Index_int_int s_ v_ = r := ⟨_, rfl⟩
 replace hm := hm r104 hr
 rw [hr] at hp
 clear hr
 subst hp
 refine ePb T hS [(4, B (decide (r104 ≥ 0)))] fun a hS => ?_
 refine wret ?_
 exact fin T hS hO (fun c => c) rfl (r := [.bool (decide (r104 ≥ 0))]) kr (fun X' hM hC => ⟨(decide (r104 ≥ 0)), hm, rfl⟩)
theorem C35 (k49 : S49) (v : ∀ (s_ : List Int) (v_ : Int), VC35 s_ v_ (fun r => r = slices_Contains_int_int s_ v_)) : S35 := by
 intro w X s_ v_ a1 c1   h1
 refine (W35 k49 w X s_ v_ a1 c1   _ (v s_ v_) h1).mono ?_
 rintro _ _ _ _ ⟨r, rfl, h⟩
 exact h
theorem W18 (k35 : S35) (w0) (X0) (l_ : List Api_Event) (ops : List Int) (a1) (c1) (a2) (c2) (Q : (List Api_Event) -> Prop) (hm : VC18 l_ ops Q) (h1 : RS tApi_Event w0 X0 a1 l_ c1) (h2 : RS tI w0 X0 a2 ops c2) :
  Ret Try.prog 18 #[.slice a1 l_.length c1, .slice a2 ops.length c2] xnone w0 X0 (fun w X' v => ∃ r, Q r /\ ∃ ra1 rc1, v = .slice ra1 r.length rc1 /\ RS tApi_Event w X' ra1 r rc1) := by
 unfold VC18 at hm
 replace hm := hm (h1.sm kr)
 replace hm := hm (h2.sm kr)
 refine enter Try.func18 rfl (vals := [.slice a1 l_.length c1, .slice a2 ops.length c2]) kr ?_
 intro Z a hS hO hM
 replace h1 := h1.m0 hM
 replace h2 := h2.m0 hM
 refine rPb T hS [(0, Sl a1 l_ c1), (1, Sl a2 ops c2)] fun a hS => ?_
 refine rPb T hS [(0, Sl a1 l_ c1), (1, Sl a2 ops c2), (5, V (.slice none 0 0))] fun a hS => ?_
 refine rPb T hS [(0, Sl a1 l_ c1), (1, Sl a2 ops c2), (5, V (.slice none 0 0)), (6, I 0)] fun a hS => ?_
 refine regO ?_
 refine op1 (mkmap kI tI false 1011 hS kr kr ?_)
 intro r101 a w102 X103 hE h104 hS
 replace hO := hO.m2 hE
 replace h1 := h1.m1 hE
 replace h2 := h2.m1 hE
 refine ePb T hS [(0, Sl a1 l_ c1), (1, Sl a2 ops c2), (5, V (.slice none 0 0)), (6, I 0), (7, V (.map (some r101)))] fun a hS => ?_
 refine wcut (fun a w => ∃ (Z : Nat -> Nat) (X : Nat -> Nat) (y105 : List Api_Event) (a106 : Option Addr) (c107 : Nat), VC18_J1 Q y105 /\ St Try.f18.ntmps ⟨[(5, Sl a106 y105 c107)], []⟩ Z a w X /\ Old w0 X0 w X /\ OS tApi_Event 54 w X 1005 a106 y105 c107) ?_ ?_
 ·refine rPb T hS [(1, Sl a2 ops c2), (5, V (.slice none 0 0)), (6, I 0), (7, V (.map (some r101))), (11, Sl a1 l_ c1), (12, I (lN l_)), (13, I 0)] fun a hS => ?_
  refine wblock ?_
  obtain ⟨I1, μ1, hm0, hm⟩ := hm
  refine wloop (σ := (List Api_Event) × Int × (List (Int × Int)) × Int) (fun s a w => ∃ Z X a113 c114, I1 s.1 s.2.1 s.2.2.1 s.2.2.2 /\ St Try.f18.ntmps ⟨[(1, Sl a2 ops c2), (5, Sl a113 s.1 c114), (6, I s.2.1), (7, V (.map (some r101))), (11, Sl a1 l_ c1), (12, I (lN l_)), (13, I s.2.2.2)], []⟩ Z a w X /\ Old w0 X0 w X /\ RS tI w X a2 ops c2 /\ OS tApi_Event 54 w X 1005 a113 s.1 c114 /\ OM kI tI false w X 1011 r101 s.2.2.1 /\ RS tApi_Event w X a1 l_ c1) (fun s => μ1 s.1 s.2.1 s.2.2.1 s.2.2.2) (⟨[], 0, ([] : List (Int × Int)), 0⟩) ?_ ?_
  ·exact ⟨Z, _, none, 0, hm0, hS.sl _, hO, h2, (OS.nil _ _ _ _ _), h104, h1⟩
  rintro ⟨y112, y116, y117, y120⟩ a w186 ⟨Z, X185, a113, c114, hI, hS, hO, h111, h115, h118, h119⟩
  replace hm := hm y112 y116 y117 y120 hI
  clear hI hm0
  refine rPb T hS [(1, Sl a2 ops c2), (5, Sl a113 y112 c114), (6, I y116), (7, V (.map (some r101))), (11, Sl a1 l_ c1), (12, I (lN l_)), (13, I y120), (14, B (decide (y120 < (lN l_))))] fun a hS => ?_
  refine wseq ?_
  refine wcond hS (b := decide (y120 < (lN l_))) kr (fun hb => ?_) fun hb => ?_
  ·replace hm := hm.1 hb
   refine wskip ?_
   refine wcut (fun a w => ∃ (Z : Nat -> Nat) (X : Nat -> Nat) (y122 : List Api_Event) (y126 : Int) (y127 : List (Int × Int)) (a123 : Option Addr) (c124 : Nat), VC18_J2 I1 μ1 y112 y116 y117 y120 y122 y126 y127 /\ St Try.f18.ntmps ⟨[(1, Sl a2 ops c2), (5, Sl a123 y122 c124), (6, I y126), (7, V (.map (some r101))), (11, Sl a1 l_ c1), (12, I (lN l_)), (13, I y120)], []⟩ Z a w X /\ Old w0 X0 w X /\ RS tI w X a2 ops c2 /\ OS tApi_Event 54 w X 1005 a123 y122 c124 /\ OM kI tI false w X 1011 r101 y127 /\ RS tApi_Event w X a1 l_ c1) ?_ ?_
   ·refine wblock ?_
    refine regO ?_
    obtain ⟨hq, hm⟩ := hm
    refine op1 (index (e := 54) (k := .i64) T hS kr kr kr kr h119 kr kr hq.1 hq.2 ?_)
    intro A130 a h131 hS
    refine op1 (loadA T hS kr kr kr h131 kr kr ?_)
    intro v132 a hv hS
    subst hv
    refine eM T hS ⟨[(1, Sl a2 ops c2), (5, Sl a113 y112 c114), (6, I y116), (7, V (.map (some r101))), (9, Pt 10 0), (11, Sl a1 l_ c1), (12, I (lN l_)), (13, I y120)], [(10, (54, (cE (gi l_ y120))))]⟩ fun Z a w181 X182 hS hE hr => ?_
    replace hO := hO.m2 hE
    replace h111 := h111.m1 hE
    replace h115 := h115.m2 hE
    replace h118 := h118.m2 hE
    replace h119 := h119.m1 hE
    clear hE hr
    refine wseq ?_
    refine rPb T hS [(1, Sl a2 ops c2), (5, Sl a113 y112 c114), (6, I y116), (7, V (.map (some r101))), (9, Pt 10 0), (11, Sl a1 l_ c1), (12, I (lN l_)), (13, I y120), (19, B (((gi l_ y120).What) == 1))] fun a hS => ?_
    refine wcond hS (b := (((gi l_ y120).What) == 1)) kr (fun hb => ?_) fun hb => ?_
    ·replace hm := hm.1 hb
     refine regO ?_
     refine oPb T hS 3 [(1, Sl a2 ops c2), (5, Sl a113 y112 c114), (6, I y116), (7, V (.map (some r101))), (9, Pt 10 0), (11, Sl a1 l_ c1), (12, I (lN l_)), (13, I y120), (20, V (.map (some r101))), (22, I ((gi l_ y120).Prc))] fun a hS => ?_
     refine op1 (mset kI tI false (v := I 0) (u := 0) ((gi l_ y120).Prc) hS kr kr kr kr Try.underlying59 Try.underlying3 kr h118 rfl ?_)
     intro a w133 hE h134 hS
     clear h118
     replace hO := hO.m2 hE
     replace h111 := h111.m1 hE
     replace h115 := h115.m2 hE
     replace h119 := h119.m1 hE
     refine doneK ?_
     refine wcut (fun a w => ∃ (Z : Nat -> Nat) (X : Nat -> Nat) (y136 : List Api_Event) (y140 : List (Int × Int)) (a137 : Option Addr) (c138 : Nat), VC18_J3 I1 μ1 y112 y116 y117 y120 y136 y140 /\ St Try.f18.ntmps ⟨[(1, Sl a2 ops c2), (5, Sl a137 y136 c138), (6, I y116), (7, V (.map (some r101))), (11, Sl a1 l_ c1), (12, I (lN l_)), (13, I y120)], []⟩ Z a w X /\ Old w0 X0 w X /\ RS tI w X a2 ops c2 /\ OS tApi_Event 54 w X 1005 a137 y136 c138 /\ OM kI tI false w X 1011 r101 y140 /\ RS tApi_Event w X a1 l_ c1) ?_ ?_
     ·refine regO ?_
      refine oPb T hS 2 [(1, Sl a2 ops c2), (5, Sl a113 y112 c114), (6, I y116), (7, V (.map (some r101))), (9, Pt 10 0), (11, Sl a1 l_ c1), (12, I (lN l_)), (13, I y120), (23, Sl a2 ops c2), (24, I y116)] fun a hS => ?_
      refine op1 (call hS kr kr hb35 kr (fun _ _ => rfl) (k35 _ _ ops y116 a2 c2 h111) ?_)
      intro v143 a w144 X145 hE hp hS
      replace hO := hO.m2 hE
      replace h111 := h111.m1 hE
      replace h115 := h115.m2 hE
      replace h119 := h119.m1 hE
      replace h134 := h134.m2 hE
      obtain ⟨r146, hr⟩ : ∃ r, slices_Contains_int_int ops y116 = r := ⟨_, rfl⟩
      replace hm := hm r146 hr
      rw [hr] at hp
      clear hr
      subst hp
      refine doneK ?_
      refine wcond hS (b := r146) kr (fun hb => ?_) fun hb => ?_
      ·replace hm := hm.1 hb
       refine region ?_
       refine oP T hS 3 ⟨[(1, Sl a2 ops c2), (5, Sl a113 y112 c114), (6, I y116), (7, V (.map (some r101))), (11, Sl a1 l_ c1), (12, I (lN l_)), (13, I y120), (26, V (.map (some r101))), (28, I ((gi l_ y120).Prc))], []⟩ fun a hS => ?_
       refine op1 (mset kI tI false (v := I 1) (u := 1) ((gi l_ y120).Prc) hS kr kr kr kr Try.underlying59 Try.underlying3 kr h134 rfl ?_)
       intro a w147 hE h148 hS
       clear h134
       replace hO := hO.m2 hE
       replace h111 := h111.m1 hE
       replace h115 := h115.m2 hE
       replace h119 := h119.m1 hE
       refine doneK ?_
       exact ⟨Z, _, y112, mput (mput y117 ((gi l_ y120).Prc) 0) ((gi l_ y120).Prc) 1, a113, c114, hm, hS.sl _, hO, h111, h115, h148, h119⟩
      replace hm := hm.2 hb
      refine region ?_
      refine oP T hS 2 ⟨[(1, Sl a2 ops c2), (5, Sl a113 y112 c114), (6, I y116), (7, V (.map (some r101))), (11, Sl a1 l_ c1), (12, I (lN l_)), (13, I y120), (29, Sl a113 y112 c114), (30, V (.agg #[.int .i64 ((gi l_ y120).What), .int .i64 ((gi l_ y120).Prc), .int .i64 ((gi l_ y120).N)]))], []⟩ fun a hS => ?_
      refine op1 (lit (E := 54) (col := 0) (T := tApi_Event) (vals := [.agg #[.int .i64 ((gi l_ y120).What), .int .i64 ((gi l_ y120).Prc), .int .i64 ((gi l_ y120).N)]]) (ys := [(gi l_ y120)]) T hS kr kr kr kr (by exact ⟨rfl, trivial⟩) rfl kr kr kr kr ?_)
      intro b149 a w150 X151 hE h152 hN hS
      clear hN
      replace hO := hO.m2 hE
      replace h111 := h111.m1 hE
      replace h115 := h115.m2 hE
      replace h119 := h119.m1 hE
      replace h134 := h134.m2 hE
      replace h152 := h152.rs0
      obtain ⟨hq, hm⟩ := hm
      obtain ⟨news, hN⟩ := h152.src
      refine op1 (append (E := 54) (T := tApi_Event) (col := 1005) (xs := y112) T hS kr kr kr kr h115 hN kr kr kr kr hq ?_)
      intro a156 c157 a w153 X154 hE h155 hS
      clear hq hN
      clear h115
      replace hO := hO.m2 hE
      replace h111 := h111.m1 hE
      replace h119 := h119.m1 hE
      replace h134 := h134.m2 hE
      replace h152 := h152.m1 hE
      refine ePb T hS [(1, Sl a2 ops c2), (5, Sl a156 (y112 ++ [(gi l_ y120)]) c157), (6, I y116), (7, V (.map (some r101))), (11, Sl a1 l_ c1), (12, I (lN l_)), (13, I y120)] fun a hS => ?_
      exact ⟨Z, _, y112 ++ [(gi l_ y120)], mput y117 ((gi l_ y120).Prc) 0, a156, c157, hm, hS.sl _, hO, h111, h155, h134, h119⟩
     rintro a w159 ⟨Z, X158, y136, y140, a137, c138, hm, hS, hO, h135, h139, h141, h142⟩
     unfold VC18_J3 at hm
     refine rPb T hS [(1, Sl a2 ops c2), (5, Sl a137 y136 c138), (6, I (wR (y116 + 1))), (7, V (.map (some r101))), (11, Sl a1 l_ c1), (12, I (lN l_)), (13, I y120)] fun a hS => ?_
     refine wexit (by rfl) ?_
     exact ⟨Z, _, y136, wR (y116 + 1), y140, a137, c138, hm, hS.sl _, hO, h135, h139, h141, h142⟩
    replace hm := hm.2 hb
    refine wskip ?_
    refine wcut (fun a w => ∃ (Z : Nat -> Nat) (X : Nat -> Nat) (y161 : List Api_Event) (a162 : Option Addr) (c163 : Nat), VC18_J4 l_ I1 μ1 y112 y116 y117 y120 y161 /\ St Try.f18.ntmps ⟨[(1, Sl a2 ops c2), (5, Sl a162 y161 c163), (6, I y116), (7, V (.map (some r101))), (9, Pt 10 0), (11, Sl a1 l_ c1), (12, I (lN l_)), (13, I y120)], [(10, (54, (cE (gi l_ y120))))]⟩ Z a w X /\ Old w0 X0 w X /\ RS tI w X a2 ops c2 /\ OS tApi_Event 54 w X 1005 a162 y161 c163 /\ OM kI tI false w X 1011 r101 y117 /\ RS tApi_Event w X a1 l_ c1) ?_ ?_
    ·refine regO ?_
     refine oPb T hS 3 [(1, Sl a2 ops c2), (5, Sl a113 y112 c114), (6, I y116), (7, V (.map (some r101))), (9, Pt 10 0), (11, Sl a1 l_ c1), (12, I (lN l_)), (13, I y120), (35, V (.map (some r101))), (37, I ((gi l_ y120).Prc))] fun a hS => ?_
     refine op1 (mlook kI tI false (zv := .int .i64 0) (z := 0) ((gi l_ y120).Prc) hS kr kr kr kr Try.underlying59 Try.underlying3 kr rfl h118 ?_)
     intro v169 a hv hS
     replace hv : tI.R _ _ [v169] _ := hv
     cases hv
     refine ePb T hS [(1, Sl a2 ops c2), (5, Sl a113 y112 c114), (6, I y116), (7, V (.map (some r101))), (9, Pt 10 0), (11, Sl a1 l_ c1), (12, I (lN l_)), (13, I y120), (44, B ((((mget y117 ((gi l_ y120).Prc)).getD 0) == 0) || (((gi l_ y120).What) != 2)))] (sp := [40]) fun a hS => ?_
     refine wcond hS (b := ((((mget y117 ((gi l_ y120).Prc)).getD 0) == 0) || (((gi l_ y120).What) != 2))) kr (fun hb => ?_) fun hb => ?_
     ·replace hm := hm.1 hb
      refine region ?_
      refine oPb T hS 2 [(1, Sl a2 ops c2), (5, Sl a113 y112 c114), (6, I y116), (7, V (.map (some r101))), (9, Pt 10 0), (11, Sl a1 l_ c1), (12, I (lN l_)), (13, I y120), (45, Sl a113 y112 c114), (46, V (.agg #[.int .i64 ((gi l_ y120).What), .int .i64 ((gi l_ y120).Prc), .int .i64 ((gi l_ y120).N)]))] fun a hS => ?_
      refine op1 (lit (E := 54) (col := 0) (T := tApi_Event) (vals := [.agg #[.int .i64 ((gi l_ y120).What), .int .i64 ((gi l_ y120).Prc), .int .i64 ((gi l_ y120).N)]]) (ys := [(gi l_ y120)]) T hS kr kr kr kr (by exact ⟨rfl, trivial⟩) rfl kr kr kr kr ?_)
      intro b170 a w171 X172 hE h173 hN hS
      clear hN
      replace hO := hO.m2 hE
      replace h111 := h111.m1 hE
      replace h115 := h115.m2 hE
      replace h118 := h118.m2 hE
      replace h119 := h119.m1 hE
      replace h173 := h173.rs0
      obtain ⟨hq, hm⟩ := hm
      obtain ⟨news, hN⟩ := h173.src
      refine op1 (append (E := 54) (T := tApi_Event) (col := 1005) (xs := y112) T hS kr kr kr kr h115 hN kr kr kr kr hq ?_)
      intro a177 c178 a w174 X175 hE h176 hS
      clear hq hN
      clear h115
      replace hO := hO.m2 hE
      replace h111 := h111.m1 hE
      replace h118 := h118.m2 hE
      replace h119 := h119.m1 hE
      replace h173 := h173.m1 hE
      refine ePb T hS [(1, Sl a2 ops c2), (5, Sl a177 (y112 ++ [(gi l_ y120)]) c178), (6, I y116), (7, V (.map (some r101))), (9, Pt 10 0), (11, Sl a1 l_ c1), (12, I (lN l_)), (13, I y120)] fun a hS => ?_
      exact ⟨Z, _, y112 ++ [(gi l_ y120)], a177, c178, hm, hS.sl _, hO, h111, h176, h118, h119⟩
     replace hm := hm.2 hb
     refine wskip ?_
     exact ⟨Z, _, y112, a113, c114, hm, hS.sl _, hO, h111, h115, h118, h119⟩
    rintro a w180 ⟨Z, X179, y161, a162, c163, hm, hS, hO, h160, h164, h165, h166⟩
    unfold VC18_J4 at hm
    refine region ?_
    refine oP T hS 3 ⟨[(1, Sl a2 ops c2), (5, Sl a162 y161 c163), (6, I y116), (7, V (.map (some r101))), (11, Sl a1 l_ c1), (12, I (lN l_)), (13, I y120), (49, V (.map (some r101))), (51, I ((gi l_ y120).Prc))], []⟩ fun a hS => ?_
    refine op1 (mset kI tI false (v := I 0) (u := 0) ((gi l_ y120).Prc) hS kr kr kr kr Try.underlying59 Try.underlying3 kr h165 rfl ?_)
    intro a w167 hE h168 hS
    clear h165
    replace hO := hO.m2 hE
    replace h160 := h160.m1 hE
    replace h164 := h164.m2 hE
    replace h166 := h166.m1 hE
    refine doneK ?_
    exact ⟨Z, _, y161, y116, mput y117 ((gi l_ y120).Prc) 0, a162, c163, hm, hS.sl _, hO, h160, h164, h168, h166⟩
   rintro a w184 ⟨Z, X183, y122, y126, y127, a123, c124, hm, hS, hO, h121, h125, h128, h129⟩
   unfold VC18_J2 at hm
   refine region (ePb T hS [(1, Sl a2 ops c2), (5, Sl a123 y122 c124), (6, I y126), (7, V (.map (some r101))), (11, Sl a1 l_ c1), (12, I (lN l_)), (13, I (wR (y120 + 1)))] fun a hS => ?_)
   exact ⟨⟨y122, y126, y127, wR (y120 + 1)⟩, ⟨Z, _, a123, c124, hm.1, hS.sl _, hO, h121, h125, h128, h129⟩, hm.2⟩
  replace hm := hm.2 hb
  refine wexit (by rfl) ?_
  exact ⟨Z, _, y112, a113, c114, hm, hS.sl _, hO, h115⟩
 rintro a w188 ⟨Z, X187, y105, a106, c107, hm, hS, hO, h108⟩
 unfold VC18_J1 at hm
 refine rPb T hS [(4, Sl a106 y105 c107)] fun a hS => ?_
 refine wret ?_
 obtain ⟨X109, hE, hF⟩ := h108.freeze (by decide)
 replace hS := hS.ev hE (xone_box kr)
 replace hO := hO.m2 hE
 have h110 := hF; clear hE hF
 exact fin T hS hO (fun c => c) rfl (r := [.slice a106 y105.length c107]) kr (fun X' hM hC => ⟨y105, hm, a106, c107, rfl, h110.m0 hM⟩)
theorem C18 (k35 : S35) (v : ∀ (l_ : List Api_Event) (ops : List Int), preWo l_ ops -> VC18 l_ ops (fun r => r = shrink_Without l_ ops)) : S18 := by
 intro w X l_ ops a1 c1 a2 c2   hp h1 h2
 refine (W18 k35 w X l_ ops a1 c1 a2 c2   _ (v l_ ops hp) h1 h2).mono ?_
 rintro _ _ _ _ ⟨r, rfl, h⟩
 exact h
theorem W32 (w0) (X0) (s_ : List Api_Row) (a1) (c1) (Q : (List Api_Row) -> Prop) (hm : VC32 s_ Q) (h1 : RS tApi_Row w0 X0 a1 s_ c1) :
  Ret Try.prog 32 #[.slice a1 s_.length c1] xnone w0 X0 (fun w X' v => ∃ r, Q r /\ ∃ ra1 rc1, v = .slice ra1 r.length rc1 /\ RS tApi_Row w X' ra1 r rc1) := by
 unfold VC32 at hm
 replace hm := hm (h1.sm kr)
 refine enter Try.func32 rfl (vals := [.slice a1 s_.length c1]) kr ?_
 intro Z a hS hO hM
 replace h1 := h1.m0 hM
 refine rPb T hS [(0, Sl a1 s_ c1)] fun a hS => ?_
 refine wseq ?_
 refine regO ?_
 refine oPb T hS 1 [(0, Sl a1 s_ c1), (3, Sl a1 s_ c1)] fun a hS => ?_
 obtain ⟨b101, hb102⟩ : ∃ q : Bool, a1.isNone = q := ⟨_, rfl⟩
 replace hm := hm b101 (h1.nilE hb102)
 refine op1 (eqNil (e := 76) (m := s_.length) (c := c1) hS kr kr kr kr Try.underlying22 hb102 ?_)
 intro a hS
 clear hb102
 refine doneK ?_
 refine wcond hS (b := b101) kr (fun hb => ?_) fun hb => ?_
 ·replace hm := hm.1 hb
  refine rPb T hS [(2, V (.slice none 0 0))] fun a hS => ?_
  refine wret ?_
  exact fin T hS hO (fun c => c) rfl (r := [.slice none 0 0]) kr (fun X' hM hC => ⟨[], hm, none, 0, rfl, RS.empty _ _ _⟩)
 replace hm := hm.2 hb
 refine wskip ?_
 refine regO ?_
 refine op1 (lit (E := 76) (col := 1003) (T := tApi_Row) (vals := []) (ys := ([] : List Api_Row)) T hS kr kr kr kr trivial rfl kr kr kr kr ?_)
 intro b103 a w104 X105 hE h106 hN hS
 clear hN
 replace hO := hO.m2 hE
 replace h1 := h1.m1 hE
 refine oPb T hS 1 [(5, Sl (some ⟨b103, 0, none⟩) ([] : List Api_Row) 0), (6, Sl a1 s_ c1)] fun a hS => ?_
 obtain ⟨hq, hm⟩ := hm
 obtain ⟨news, hN⟩ := h1.src
 refine op1 (append (E := 76) (T := tApi_Row) (col := 1003) (xs := ([] : List Api_Row)) T hS kr kr kr kr h106 hN kr kr kr kr hq ?_)
 intro a110 c111 a w107 X108 hE h109 hS
 clear hq hN
 clear h106
 replace hO := hO.m2 hE
 replace h1 := h1.m1 hE
 refine ePb T hS [(2, Sl a110 (([] : List Api_Row) ++ s_) c111)] fun a hS => ?_
 refine wret ?_
 obtain ⟨X112, hE, hF⟩ := h109.freeze (by decide)
 replace hS := hS.ev hE (xone_box kr)
 replace hO := hO.m2 hE
 have h113 := hF; clear hE hF
 exact fin T hS hO (fun c => c) rfl (r := [.slice a110 (([] : List Api_Row) ++ s_).length c111]) kr (fun X' hM hC => ⟨(([] : List Api_Row) ++ s_), hm, a110, c111, rfl, h113.m0 hM⟩)
theorem C32 (v : ∀ (s_ : List Api_Row), preC2 s_ -> VC32 s_ (fun r => r = slices_Clone_api_Row_api_Row s_)) : S32 := by
 intro w X s_ a1 c1   hp h1
 refine (W32 w X s_ a1 c1   _ (v s_ hp) h1).mono ?_
 rintro _ _ _ _ ⟨r, rfl, h⟩
 exact h
theorem W33 (w0) (X0) (s_ : List Api_Event) (a1) (c1) (Q : (List Api_Event) -> Prop) (hm : VC33 s_ Q) (h1 : RS tApi_Event w0 X0 a1 s_ c1) :
  Ret Try.prog 33 #[.slice a1 s_.length c1] xnone w0 X0 (fun w X' v => ∃ r, Q r /\ ∃ ra1 rc1, v = .slice ra1 r.length rc1 /\ RS tApi_Event w X' ra1 r rc1) := by
 unfold VC33 at hm
 replace hm := hm (h1.sm kr)
 refine enter Try.func33 rfl (vals := [.slice a1 s_.length c1]) kr ?_
 intro Z a hS hO hM
 replace h1 := h1.m0 hM
 refine rPb T hS [(0, Sl a1 s_ c1)] fun a hS => ?_
 refine wseq ?_
 refine regO ?_
 refine oPb T hS 1 [(0, Sl a1 s_ c1), (3, Sl a1 s_ c1)] fun a hS => ?_
 obtain ⟨b101, hb102⟩ : ∃ q : Bool, a1.isNone = q := ⟨_, rfl⟩
 replace hm := hm b101 (h1.nilE hb102)
 refine op1 (eqNil (e := 54) (m := s_.length) (c := c1) hS kr kr kr kr Try.underlying25 hb102 ?_)
 intro a hS
 clear hb102
 refine doneK ?_
 refine wcond hS (b := b101) kr (fun hb => ?_) fun hb => ?_
 ·replace hm := hm.1 hb
  refine rPb T hS [(2, V (.slice none 0 0))] fun a hS => ?_
  refine wret ?_
  exact fin T hS hO (fun c => c) rfl (r := [.slice none 0 0]) kr (fun X' hM hC => ⟨[], hm, none, 0, rfl, RS.empty _ _ _⟩)
 replace hm := hm.2 hb
 refine wskip ?_
 refine regO ?_
 refine op1 (lit (E := 54) (col := 1003) (T := tApi_Event) (vals := []) (ys := ([] : List Api_Event)) T hS kr kr kr kr trivial rfl kr kr kr kr ?_)
 intro b103 a w104 X105 hE h106 hN hS
 clear hN
 replace hO := hO.m2 hE
 replace h1 := h1.m1 hE
 refine oPb T hS 1 [(5, Sl (some ⟨b103, 0, none⟩) ([] : List Api_Event) 0), (6, Sl a1 s_ c1)] fun a hS => ?_
 obtain ⟨hq, hm⟩ := hm
 obtain ⟨news, hN⟩ := h1.src
 refine op1 (append (E := 54) (T := tApi_Event) (col := 1003) (xs := ([] : List Api_Event)) T hS kr kr kr kr h106 hN kr kr kr kr hq ?_)
 intro a110 c111 a w107 X108 hE h109 hS
 clear hq hN
 clear h106
 replace hO := hO.m2 hE
 replace h1 := h1.m1 hE
 refine ePb T hS [(2, Sl a110 (([] : List Api_Event) ++ s_) c111)] fun a hS => ?_
 refine wret ?_
 obtain ⟨X112, hE, hF⟩ := h109.freeze (by decide)
 replace hS := hS.ev hE (xone_box kr)
 replace hO := hO.m2 hE
 have h113 := hF; clear hE hF
 exact fin T hS hO (fun c => c) rfl (r := [.slice a110 (([] : List Api_Event) ++ s_).length c111]) kr (fun X' hM hC => ⟨(([] : List Api_Event) ++ s_), hm, a110, c111, rfl, h113.m0 hM⟩)
theorem C33 (v : ∀ (s_ : List Api_Event), preC3 s_ -> VC33 s_ (fun r => r = slices_Clone_api_Event_api_Event s_)) : S33 := by
 intro w X s_ a1 c1   hp h1
 refine (W33 w X s_ a1 c1   _ (v s_ hp) h1).mono ?_
 rintro _ _ _ _ ⟨r, rfl, h⟩
 exact h
end Go.Proofs.Ytojdelnnjhbgbaa
