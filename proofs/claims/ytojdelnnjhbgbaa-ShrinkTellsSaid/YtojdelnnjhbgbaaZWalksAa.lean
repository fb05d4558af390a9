/- Walks: each function returns what its condition asks. Condition: the contracts of its callees, handed in. -/
import Derived.Test.YtojdelnnjhbgbaaZWalksS
set_option linter.all false
namespace Go.Proofs.Ytojdelnnjhbgbaa
open Go Go.Sv
abbrev zAa0 (col5 col4 col3 col2 col1 : Nat) : Nat -> Nat := fun c => (bif Nat.beq c 6 then col5 else (bif Nat.beq c 4 then col4 else (bif Nat.beq c 8 then col3 else (bif Nat.beq c 5 then col2 else (bif Nat.beq c 1009 then col1 else c)))))
abbrev zAa1 (col2 col1 : Nat) : Nat -> Nat := fun c => (bif Nat.beq c 4 then col2 else (bif Nat.beq c 1007 then col1 else c))
abbrev zAa2 (i1 i2 i3 i4 m2 : Nat) : List (Nat × Nat) := [(i1, 901), (i2, 902), (i3, 903), (i4, 904), (m2, 2002)]
set_option maxHeartbeats 1000000
theorem W50 (w0) (X0) (n_ : Int) (top : Int) (Q : Bool -> Prop) (hm : VC50 n_ top Q) :
  Ret Try.prog 50 #[.int .i64 n_, .int .i64 top] xnone w0 X0 (fun w X' v => ∃ r, Q r /\ v = .bool r) := by
 unfold VC50 at hm
 refine enter Try.func50 rfl (vals := [.int .i64 n_, .int .i64 top]) kr ?_
 intro Z a hS hO hM
 refine rPb T hS [(0, I n_), (1, I top)] fun a hS => ?_
 refine rPb T hS [(4, B ((decide (n_ ≥ 0)) && (decide (n_ < top))))] (sp := [7]) fun a hS => ?_
 refine wret ?_
 exact fin T hS hO (fun c => c) rfl (r := [.bool ((decide (n_ ≥ 0)) && (decide (n_ < top)))]) kr (fun X' hM hC => ⟨((decide (n_ ≥ 0)) && (decide (n_ < top))), hm, rfl⟩)
theorem C50 (v : ∀ (n_ : Int) (top : Int), VC50 n_ top (fun r => r = object_within n_ top)) : S50 := by
 intro w X n_ top    
 refine (W50 w X n_ top    _ (v n_ top)).mono ?_
 rintro _ _ _ _ ⟨r, rfl, h⟩
 exact h
theorem W73 (w0) (X0) (vals : List Int) (a1) (c1) (Q : Int -> Prop) (hm : VC73 vals Q) (h1 : RS tI w0 X0 a1 vals c1) :
  Ret Try.prog 73 #[.slice a1 vals.length c1] xnone w0 X0 (fun w X' v => ∃ r, Q r /\ v = .int .i64 r) := by
 unfold VC73 at hm
 replace hm := hm (h1.sm kr)
 refine enter Try.func73 rfl (vals := [.slice a1 vals.length c1]) kr ?_
 intro Z a hS hO hM
 replace h1 := h1.m0 hM
 refine rPb T hS [(0, Sl a1 vals c1)] fun a hS => ?_
 refine rPb T hS [(0, Sl a1 vals c1), (3, I 0)] fun a hS => ?_
 refine wcut (fun a w => ∃ Z X, VC73_J1 Q /\ St Try.f73.ntmps ⟨[(3, I 0)], []⟩ Z a w X /\ Old w0 X0 w X) ?_ ?_
 ·refine rPb T hS [(3, I 0), (6, Sl a1 vals c1), (7, I (lN vals)), (8, I 0)] fun a hS => ?_
  refine wblock ?_
  obtain ⟨I1, μ1, hm0, hm⟩ := hm
  refine wloop (σ := Int) (fun s a w => ∃ Z X, I1 s /\ St Try.f73.ntmps ⟨[(3, I 0), (6, Sl a1 vals c1), (7, I (lN vals)), (8, I s)], []⟩ Z a w X /\ Old w0 X0 w X /\ RS tI w X a1 vals c1) (fun s => μ1 s) (0) ?_ ?_
  ·exact ⟨Z, _, hm0, hS.sl _, hO, h1⟩
  rintro y102 a w107 ⟨Z, X106, hI, hS, hO, h101⟩
  replace hm := hm y102 hI
  clear hI hm0
  refine rPb T hS [(3, I 0), (6, Sl a1 vals c1), (7, I (lN vals)), (8, I y102), (9, B (decide (y102 < (lN vals))))] fun a hS => ?_
  refine wseq ?_
  refine wcond hS (b := decide (y102 < (lN vals))) kr (fun hb => ?_) fun hb => ?_
  ·replace hm := hm.1 hb
   refine wskip (wseq ?_)
   refine wblock ?_
   refine regO ?_
   obtain ⟨hq, hm⟩ := hm
   refine op1 (index (e := 3) (k := .i64) T hS kr kr kr kr h101 kr kr hq.1 hq.2 ?_)
   intro A103 a h104 hS
   refine op1 (load1 T hS kr kr kr h104 rfl kr ?_)
   intro v105 a hv hS
   cases hv
   refine ePb T hS [(3, I 0), (5, I (gi vals y102)), (6, Sl a1 vals c1), (7, I (lN vals)), (8, I y102)] fun a hS => ?_
   refine rPb T hS [(3, I 0), (5, I (gi vals y102)), (6, Sl a1 vals c1), (7, I (lN vals)), (8, I y102), (14, B ((gi vals y102) != 0))] fun a hS => ?_
   refine wcond hS (b := ((gi vals y102) != 0)) kr (fun hb => ?_) fun hb => ?_
   ·replace hm := hm.1 hb
    refine rPb T hS [(2, I (gi vals y102))] fun a hS => ?_
    refine wret ?_
    exact fin T hS hO (fun c => c) rfl (r := [.int .i64 (gi vals y102)]) kr (fun X' hM hC => ⟨(gi vals y102), hm, rfl⟩)
   replace hm := hm.2 hb
   refine wskip ?_
   refine region (ePb T hS [(3, I 0), (6, Sl a1 vals c1), (7, I (lN vals)), (8, I (wR (y102 + 1)))] fun a hS => ?_)
   exact ⟨wR (y102 + 1), ⟨Z, _, hm.1, hS.sl _, hO, h101⟩, hm.2⟩
  replace hm := hm.2 hb
  refine wexit (by rfl) ?_
  exact ⟨Z, _, hm, hS.sl _, hO⟩
 rintro a w109 ⟨Z, X108, hm, hS, hO⟩
 unfold VC73_J1 at hm
 refine rPb T hS [(2, I 0)] fun a hS => ?_
 refine wret ?_
 exact fin T hS hO (fun c => c) rfl (r := [.int .i64 0]) kr (fun X' hM hC => ⟨0, hm, rfl⟩)
theorem C73 (v : ∀ (vals : List Int), VC73 vals (fun r => r = cmp_Or_int vals)) : S73 := by
 intro w X vals a1 c1   h1
 refine (W73 w X vals a1 c1   _ (v vals) h1).mono ?_
 rintro _ _ _ _ ⟨r, rfl, h⟩
 exact h
theorem W83 (w0) (X0) (x_ : Int) (Q : Bool -> Prop) (hm : VC83 x_ Q) :
  Ret Try.prog 83 #[.int .i64 x_] xnone w0 X0 (fun w X' v => ∃ r, Q r /\ v = .bool r) := by
 unfold VC83 at hm
 refine enter Try.func83 rfl (vals := [.int .i64 x_]) kr ?_
 intro Z a hS hO hM
 refine rPb T hS [(0, I x_)] fun a hS => ?_
 refine rPb T hS [(2, B (x_ != x_))] fun a hS => ?_
 refine wret ?_
 exact fin T hS hO (fun c => c) rfl (r := [.bool (x_ != x_)]) kr (fun X' hM hC => ⟨(x_ != x_), hm, rfl⟩)
theorem C83 (v : ∀ (x_ : Int), VC83 x_ (fun r => r = cmp_isNaN_int x_)) : S83 := by
 intro w X x_    
 refine (W83 w X x_    _ (v x_)).mono ?_
 rintro _ _ _ _ ⟨r, rfl, h⟩
 exact h
theorem W74 (k83 : S83) (w0) (X0) (x_ : Int) (y_ : Int) (Q : Int -> Prop) (hm : VC74 x_ y_ Q) :
  Ret Try.prog 74 #[.int .i64 x_, .int .i64 y_] xnone w0 X0 (fun w X' v => ∃ r, Q r /\ v = .int .i64 r) := by
 unfold VC74 at hm
 refine enter Try.func74 rfl (vals := [.int .i64 x_, .int .i64 y_]) kr ?_
 intro Z a hS hO hM
 refine rPb T hS [(0, I x_), (1, I y_)] fun a hS => ?_
 refine regO ?_
 refine oPb T hS 1 [(0, I x_), (1, I y_), (7, I x_)] fun a hS => ?_
 refine op1 (call hS kr kr hb83 kr (fun _ _ => rfl) (k83 _ _ x_) ?_)
 intro v101 a w102 X103 hE hp hS
 replace hO := hO.m2 hE
 obtain ⟨r104, hr⟩ : ∃ r, cmp_isNaN_int x_ = r := ⟨_, rfl⟩
 replace hm := hm r104 hr
 rw [hr] at hp
 clear hr
 subst hp
 refine ePb T hS [(0, I x_), (1, I y_), (5, B r104)] fun a hS => ?_
 refine regO ?_
 refine oPb T hS 1 [(0, I x_), (1, I y_), (5, B r104), (9, I y_)] fun a hS => ?_
 refine op1 (call hS kr kr hb83 kr (fun _ _ => rfl) (k83 _ _ y_) ?_)
 intro v105 a w106 X107 hE hp hS
 replace hO := hO.m2 hE
 obtain ⟨r108, hr⟩ : ∃ r, cmp_isNaN_int y_ = r := ⟨_, rfl⟩
 replace hm := hm r108 hr
 rw [hr] at hp
 clear hr
 subst hp
 refine ePb T hS [(0, I x_), (1, I y_), (5, B r104), (6, B r108)] fun a hS => ?_
 refine wseq ?_
 refine rPb T hS [(0, I x_), (1, I y_), (6, B r108), (11, B r104)] fun a hS => ?_
 refine wcond hS (b := r104) kr (fun hb => ?_) fun hb => ?_
 ·replace hm := hm.1 hb
  refine wseq ?_
  refine rPb T hS [(12, B r108)] fun a hS => ?_
  refine wcond hS (b := r108) kr (fun hb => ?_) fun hb => ?_
  ·replace hm := hm.1 hb
   refine rPb T hS [(4, I 0)] fun a hS => ?_
   refine wret ?_
   exact fin T hS hO (fun c => c) rfl (r := [.int .i64 0]) kr (fun X' hM hC => ⟨0, hm, rfl⟩)
  replace hm := hm.2 hb
  refine wskip ?_
  refine rPb T hS [(4, I (-1))] fun a hS => ?_
  refine wret ?_
  exact fin T hS hO (fun c => c) rfl (r := [.int .i64 (-1)]) kr (fun X' hM hC => ⟨(-1), hm, rfl⟩)
 replace hm := hm.2 hb
 refine wskip (wseq ?_)
 refine rPb T hS [(0, I x_), (1, I y_), (13, B r108)] fun a hS => ?_
 refine wcond hS (b := r108) kr (fun hb => ?_) fun hb => ?_
 ·replace hm := hm.1 hb
  refine rPb T hS [(4, I 1)] fun a hS => ?_
  refine wret ?_
  exact fin T hS hO (fun c => c) rfl (r := [.int .i64 1]) kr (fun X' hM hC => ⟨1, hm, rfl⟩)
 replace hm := hm.2 hb
 refine wskip (wseq ?_)
 refine rPb T hS [(0, I x_), (1, I y_), (16, B (decide (x_ < y_)))] fun a hS => ?_
 refine wcond hS (b := decide (x_ < y_)) kr (fun hb => ?_) fun hb => ?_
 ·replace hm := hm.1 hb
  refine rPb T hS [(4, I (-1))] fun a hS => ?_
  refine wret ?_
  exact fin T hS hO (fun c => c) rfl (r := [.int .i64 (-1)]) kr (fun X' hM hC => ⟨(-1), hm, rfl⟩)
 replace hm := hm.2 hb
 refine wskip (wseq ?_)
 refine rPb T hS [(19, B (decide (x_ > y_)))] fun a hS => ?_
 refine wcond hS (b := decide (x_ > y_)) kr (fun hb => ?_) fun hb => ?_
 ·replace hm := hm.1 hb
  refine rPb T hS [(4, I 1)] fun a hS => ?_
  refine wret ?_
  exact fin T hS hO (fun c => c) rfl (r := [.int .i64 1]) kr (fun X' hM hC => ⟨1, hm, rfl⟩)
 replace hm := hm.2 hb
 refine wskip ?_
 refine rPb T hS [(4, I 0)] fun a hS => ?_
 refine wret ?_
 exact fin T hS hO (fun c => c) rfl (r := [.int .i64 0]) kr (fun X' hM hC => ⟨0, hm, rfl⟩)
theorem C74 (k83 : S83) (v : ∀ (x_ : Int) (y_ : Int), VC74 x_ y_ (fun r => r = cmp_Compare_int x_ y_)) : S74 := by
 intro w X x_ y_    
 refine (W74 k83 w X x_ y_    _ (v x_ y_)).mono ?_
 rintro _ _ _ _ ⟨r, rfl, h⟩
 exact h
theorem W62 (k73 : S73) (k74 : S74) (w0) (X0) (a_ : Api_Row) (b_ : Api_Row) (Q : Int -> Prop) (hm : VC62 a_ b_ Q) :
  Ret Try.prog 62 #[.agg #[.int .i64 a_.State, .int .i64 a_.Kind, .int .i64 a_.Next, .int .i64 a_.Result], .agg #[.int .i64 b_.State, .int .i64 b_.Kind, .int .i64 b_.Next, .int .i64 b_.Result]] xnone w0 X0 (fun w X' v => ∃ r, Q r /\ v = .int .i64 r) := by
 unfold VC62 at hm
 refine enter Try.func62 rfl (vals := [.agg #[.int .i64 a_.State, .int .i64 a_.Kind, .int .i64 a_.Next, .int .i64 a_.Result], .agg #[.int .i64 b_.State, .int .i64 b_.Kind, .int .i64 b_.Next, .int .i64 b_.Result]]) kr ?_
 intro Z a hS hO hM
 refine rM T hS ⟨[(2, Pt 3 0), (3, Pt 4 0)], [(3, (76, (cR a_))), (4, (76, (cR b_)))]⟩ fun Z a w119 X120 hS hE hr => ?_
 replace hO := hO.m2 hE
 clear hE hr
 refine drawnSX [3, 4] mixed hS ?_
 intro w101 X102 hS hE hD hH
 replace hO := hO.m2 hE
 refine tkb T [0, 2, 5, 7, 1, 3, 6, 8] [3, 4] hS hH #[true, true, true, true, false, true, true, true, true, false, false, false, false] 5 [(6, I a_.State), (8, I b_.State), (11, I a_.Kind), (13, I b_.Kind)] fun a hS => ?_
 refine only 4 kr (by rfl) (call hS kr kr hb74 kr (fun _ _ => rfl) (k74 _ _ a_.State b_.State) ?_)
 intro v103 a w104 X105 hE hp hS
 replace hO := hO.m2 hE
 replace hD := hD.ev hE rfl
 obtain ⟨r106, hr⟩ : ∃ r, cmp_Compare_int a_.State b_.State = r := ⟨_, rfl⟩
 replace hm := hm r106 hr
 rw [hr] at hp
 clear hr
 subst hp
 replace hS := hS.slb [(6, I a_.State), (8, I b_.State), (11, I a_.Kind), (13, I b_.Kind), (9, I r106)]
 refine andH (Hold.of hS (bks := [3, 4]) kr hD) ?_
 intro hH
 refine only 9 kr (by rfl) (call hS kr kr hb74 kr (fun _ _ => rfl) (k74 _ _ a_.Kind b_.Kind) ?_)
 intro v107 a w108 X109 hE hp hS
 replace hO := hO.m2 hE
 replace hD := hD.ev hE rfl
 obtain ⟨r110, hr⟩ : ∃ r, cmp_Compare_int a_.Kind b_.Kind = r := ⟨_, rfl⟩
 replace hm := hm r110 hr
 rw [hr] at hp
 clear hr
 subst hp
 replace hS := hS.slb [(6, I a_.State), (8, I b_.State), (11, I a_.Kind), (13, I b_.Kind), (9, I r106), (14, I r110)]
 refine andH (Hold.of hS (bks := [3, 4]) kr hD) ?_
 intro hH
 refine only 10 kr (by rfl) (lit (E := 3) (col := 0) (T := tI) (vals := [.int .i64 r106, .int .i64 r110]) (ys := [r106, r110]) T hS kr kr kr kr (by exact ⟨rfl, rfl, trivial⟩) rfl kr kr kr kr ?_)
 intro b111 a w112 X113 hE h114 hN hS
 clear hN
 replace hO := hO.m2 hE
 replace hD := hD.ev hE rfl
 replace h114 := h114.rs0
 refine andH (Hold.of hS (bks := [3, 4]) kr hD) ?_
 intro hH
 refine only 11 kr (by rfl) (call hS kr kr hb73 kr (fun _ _ => rfl) (k73 _ _ [r106, r110] (some ⟨b111, 0, none⟩) 2 h114) ?_)
 intro v115 a w116 X117 hE hp hS
 replace hO := hO.m2 hE
 replace hD := hD.ev hE rfl
 replace h114 := h114.m1 hE
 obtain ⟨r118, hr⟩ : ∃ r, cmp_Or_int [r106, r110] = r := ⟨_, rfl⟩
 replace hm := hm r118 hr
 rw [hr] at hp
 clear hr
 subst hp
 replace hS := hS.slb [(6, I a_.State), (8, I b_.State), (11, I a_.Kind), (13, I b_.Kind), (9, I r106), (14, I r110), (15, Sl (some ⟨b111, 0, none⟩) [r106, r110] 2), (16, I r118)]
 refine andH (Hold.of hS (bks := [3, 4]) kr hD) ?_
 intro hH
 refine tkb T [12] [3, 4] hS hH (tts 13) 0 [(4, I r118)] fun a hS => ?_
 refine drawnDone kr ?_
 replace hS := hS.sl ⟨[(4, I r118)], []⟩
 refine wret ?_
 exact fin T hS hO (fun c => c) rfl (r := [.int .i64 r118]) kr (fun X' hM hC => ⟨r118, hm, rfl⟩)
theorem C62 (k73 : S73) (k74 : S74) (v : ∀ (a_ : Api_Row) (b_ : Api_Row), VC62 a_ b_ (fun r => r = object_place a_ b_)) : S62 := by
 intro w X a_ b_    
 refine (W62 k73 k74 w X a_ b_    _ (v a_ b_)).mono ?_
 rintro _ _ _ _ ⟨r, rfl, h⟩
 exact h
theorem W51 (k50 : S50) (k62 : S62) (w0) (X0) (o_ : Api_Object) (i_ : Int) (a1) (c1) (Q : Int -> Prop) (hm : VC51 o_ i_ Q) (h1 : RS tApi_Row w0 X0 a1 o_.Rows c1) :
  Ret Try.prog 51 #[.agg #[.int .i64 o_.States, .int .i64 o_.Kinds, .int .i64 o_.Init, .slice a1 o_.Rows.length c1], .int .i64 i_] xnone w0 X0 (fun w X' v => ∃ r, Q r /\ v = .int .i64 r) := by
 unfold VC51 at hm
 replace hm := hm (h1.sm kr)
 refine enter Try.func51 rfl (vals := [.agg #[.int .i64 o_.States, .int .i64 o_.Kinds, .int .i64 o_.Init, .slice a1 o_.Rows.length c1], .int .i64 i_]) kr ?_
 intro Z a hS hO hM
 replace h1 := h1.m0 hM
 refine rM T hS ⟨[(1, I i_), (2, Pt 3 0)], [(3, (24, (cO o_ a1 c1)))]⟩ fun Z a w138 X139 hS hE hr => ?_
 replace hO := hO.m2 hE
 replace h1 := h1.m1 hE
 clear hE hr
 refine regO ?_
 refine oPb T hS 3 [(1, I i_), (2, Pt 3 0), (7, Sl a1 o_.Rows c1), (8, I i_)] fun a hS => ?_
 obtain ⟨hq, hm⟩ := hm
 refine op1 (index (e := 76) (k := .i64) T hS kr kr kr kr h1 kr kr hq.1 hq.2 ?_)
 intro A101 a h102 hS
 refine op1 (loadA T hS kr kr kr h102 kr kr ?_)
 intro v103 a hv hS
 subst hv
 refine eM T hS ⟨[(1, I i_), (2, Pt 3 0), (5, Pt 6 0)], [(3, (24, (cO o_ a1 c1))), (6, (76, (cR (gi o_.Rows i_))))]⟩ fun Z a w136 X137 hS hE hr => ?_
 replace hO := hO.m2 hE
 replace h1 := h1.m1 hE
 clear hE hr
 refine wseq ?_
 refine wblock ?_
 refine wcut (fun a w => ∃ (Z : Nat -> Nat) (X : Nat -> Nat) (y104 : Bool), VC51_J1 o_ i_ Q y104 /\ St Try.f51.ntmps ⟨[(1, I i_), (2, Pt 3 0), (5, Pt 6 0), (11, B y104)], [(3, (24, (cO o_ a1 c1))), (6, (76, (cR (gi o_.Rows i_))))]⟩ Z a w X /\ Old w0 X0 w X /\ RS tApi_Row w X a1 o_.Rows c1) ?_ ?_
 ·refine region ?_
  refine oPb T hS 4 [(1, I i_), (2, Pt 3 0), (5, Pt 6 0), (13, I ((gi o_.Rows i_).State)), (15, I o_.States)] fun a hS => ?_
  refine op1 (call hS kr kr hb50 kr (fun _ _ => rfl) (k50 _ _ ((gi o_.Rows i_).State) o_.States) ?_)
  intro v126 a w127 X128 hE hp hS
  replace hO := hO.m2 hE
  replace h1 := h1.m1 hE
  obtain ⟨r129, hr⟩ : ∃ r, object_within ((gi o_.Rows i_).State) o_.States = r := ⟨_, rfl⟩
  replace hm := hm r129 hr
  rw [hr] at hp
  clear hr
  subst hp
  refine oPb T hS 2 [(1, I i_), (2, Pt 3 0), (5, Pt 6 0), (18, B (!r129))] fun a hS => ?_
  rcases bft (!r129) with hb | hb
  ·replace hS := hS.lit (t := 18) kr hb
   replace hm := hm.1 hb
   refine ePb T hS [(1, I i_), (2, Pt 3 0), (5, Pt 6 0), (11, B true)] fun a hS => ?_
   exact ⟨Z, _, true, hm, hS.sl _, hO, h1⟩
  replace hS := hS.lit (t := 18) kr hb
  replace hm := hm.2 hb
  refine oPb T hS 4 [(1, I i_), (2, Pt 3 0), (5, Pt 6 0), (18, B false), (20, I ((gi o_.Rows i_).Next)), (22, I o_.States)] fun a hS => ?_
  refine op1 (call hS kr kr hb50 kr (fun _ _ => rfl) (k50 _ _ ((gi o_.Rows i_).Next) o_.States) ?_)
  intro v130 a w131 X132 hE hp hS
  replace hO := hO.m2 hE
  replace h1 := h1.m1 hE
  obtain ⟨r133, hr⟩ : ∃ r, object_within ((gi o_.Rows i_).Next) o_.States = r := ⟨_, rfl⟩
  replace hm := hm r133 hr
  rw [hr] at hp
  clear hr
  subst hp
  refine ePb T hS [(1, I i_), (2, Pt 3 0), (5, Pt 6 0), (11, B (!r133))] fun a hS => ?_
  exact ⟨Z, _, (!r133), hm, hS.sl _, hO, h1⟩
 rintro a w135 ⟨Z, X134, y104, hm, hS, hO, h105⟩
 unfold VC51_J1 at hm
 refine wcond hS (b := y104) kr (fun hb => ?_) fun hb => ?_
 ·replace hm := hm.1 hb
  refine rP T hS ⟨[(4, I 30)], []⟩ fun a hS => ?_
  refine wret ?_
  exact fin T hS hO (fun c => c) rfl (r := [.int .i64 30]) kr (fun X' hM hC => ⟨30, hm, rfl⟩)
 replace hm := hm.2 hb
 refine regO ?_
 refine oPb T hS 4 [(1, I i_), (2, Pt 3 0), (5, Pt 6 0), (28, I ((gi o_.Rows i_).Kind)), (30, I o_.Kinds)] fun a hS => ?_
 refine op1 (call hS kr kr hb50 kr (fun _ _ => rfl) (k50 _ _ ((gi o_.Rows i_).Kind) o_.Kinds) ?_)
 intro v106 a w107 X108 hE hp hS
 replace hO := hO.m2 hE
 replace h105 := h105.m1 hE
 obtain ⟨r109, hr⟩ : ∃ r, object_within ((gi o_.Rows i_).Kind) o_.Kinds = r := ⟨_, rfl⟩
 replace hm := hm r109 hr
 rw [hr] at hp
 clear hr
 subst hp
 refine ePb T hS [(1, I i_), (2, Pt 3 0), (5, Pt 6 0), (26, B (!r109))] fun a hS => ?_
 refine wcond hS (b := (!r109)) kr (fun hb => ?_) fun hb => ?_
 ·replace hm := hm.1 hb
  refine rP T hS ⟨[(4, I 31)], []⟩ fun a hS => ?_
  refine wret ?_
  exact fin T hS hO (fun c => c) rfl (r := [.int .i64 31]) kr (fun X' hM hC => ⟨31, hm, rfl⟩)
 replace hm := hm.2 hb
 refine regO ?_
 refine oPb T hS 2 [(1, I i_), (2, Pt 3 0), (5, Pt 6 0), (35, I ((gi o_.Rows i_).Result))] fun a hS => ?_
 refine op1 (call hS kr kr hb50 kr (fun _ _ => rfl) (k50 _ _ ((gi o_.Rows i_).Result) 1000001) ?_)
 intro v110 a w111 X112 hE hp hS
 replace hO := hO.m2 hE
 replace h105 := h105.m1 hE
 obtain ⟨r113, hr⟩ : ∃ r, object_within ((gi o_.Rows i_).Result) 1000001 = r := ⟨_, rfl⟩
 replace hm := hm r113 hr
 rw [hr] at hp
 clear hr
 subst hp
 refine ePb T hS [(1, I i_), (2, Pt 3 0), (5, Pt 6 0), (33, B (!r113))] fun a hS => ?_
 refine wcond hS (b := (!r113)) kr (fun hb => ?_) fun hb => ?_
 ·replace hm := hm.1 hb
  refine rP T hS ⟨[(4, I 7)], []⟩ fun a hS => ?_
  refine wret ?_
  exact fin T hS hO (fun c => c) rfl (r := [.int .i64 7]) kr (fun X' hM hC => ⟨7, hm, rfl⟩)
 replace hm := hm.2 hb
 refine wcut (fun a w => ∃ (Z : Nat -> Nat) (X : Nat -> Nat) (y114 : Bool), VC51_J2 Q y114 /\ St Try.f51.ntmps ⟨[(38, B y114)], []⟩ Z a w X /\ Old w0 X0 w X) ?_ ?_
 ·refine drawnX [3, 6] mixed hS ?_
  intro w115 X116 hS hE hD hH
  replace hO := hO.m2 hE
  replace h105 := h105.m1 hE
  refine tkb T [0, 1, 2] [3, 6] hS hH #[true, true, true, false, false, false, false, false, false, false, false, false, false, false] 11 [(1, I i_), (2, Pt 3 0), (5, Pt 6 0), (41, B (decide (i_ > 0)))] fun a hS => ?_
  rcases bft (decide (i_ > 0)) with hb | hb
  ·replace hS := hS.lit (t := 41) kr hb
   replace hm := hm.1 hb
   refine tkb T [3, 5, 9, 4, 6] [3, 6] hS hH #[true, true, true, true, true, true, true, false, false, true, false, false, false, false] 6 [(41, B true), (43, Sl a1 o_.Rows c1), (45, I (wR (i_ - 1))), (48, V (.agg #[.int .i64 ((gi o_.Rows i_).State), .int .i64 ((gi o_.Rows i_).Kind), .int .i64 ((gi o_.Rows i_).Next), .int .i64 ((gi o_.Rows i_).Result)]))] fun a hS => ?_
   obtain ⟨hq, hm⟩ := hm
   refine dindex (e := 76) (k := .i64) T 7 hS kr kr kr (by rfl) kr hH kr kr h105 kr kr hq.1 hq.2 ?_
   intro A117 a h118 hS
   have h118b := h118.here
   refine dloadA T 8 hS kr kr kr (by rfl) kr hH kr h118 h118b kr kr ?_
   intro v119 a hv hS
   subst hv
   refine only 10 kr (by rfl) (call hS kr kr hb62 kr (fun _ _ => rfl) (k62 _ _ (gi o_.Rows (wR (i_ - 1))) (gi o_.Rows i_)) ?_)
   intro v120 a w121 X122 hE hp hS
   replace hO := hO.m2 hE
   replace hD := hD.ev hE rfl
   replace h105 := h105.m1 hE
   replace h118 := h118.m1 hE
   obtain ⟨r123, hr⟩ : ∃ r, object_place (gi o_.Rows (wR (i_ - 1))) (gi o_.Rows i_) = r := ⟨_, rfl⟩
   replace hm := hm r123 hr
   rw [hr] at hp
   clear hr
   subst hp
   replace hS := hS.slb [(41, B true), (43, Sl a1 o_.Rows c1), (45, I (wR (i_ - 1))), (48, V (.agg #[.int .i64 ((gi o_.Rows i_).State), .int .i64 ((gi o_.Rows i_).Kind), .int .i64 ((gi o_.Rows i_).Next), .int .i64 ((gi o_.Rows i_).Result)])), (46, V (.pointer (some A117))), (47, V (.agg #[.int .i64 ((gi o_.Rows (wR (i_ - 1))).State), .int .i64 ((gi o_.Rows (wR (i_ - 1))).Kind), .int .i64 ((gi o_.Rows (wR (i_ - 1))).Next), .int .i64 ((gi o_.Rows (wR (i_ - 1))).Result)])), (49, I r123)]
   refine andH (Hold.of hS (bks := [3, 6]) kr hD) ?_
   intro hH
   refine tkb T [11, 12, 13] [3, 6] hS hH (tts 14) 0 [(38, B (decide (r123 ≥ 0)))] fun a hS => ?_
   refine drawnDone kr ?_
   replace hS := hS.sl ⟨[(38, B (decide (r123 ≥ 0)))], []⟩
   exact ⟨Z, _, decide (r123 ≥ 0), hm, hS.sl _, hO⟩
  replace hS := hS.lit (t := 41) kr hb
  replace hm := hm.2 hb
  refine tkb T [3, 5, 9, 4, 6, 7, 8, 10, 11, 12, 13] [3, 6] hS hH (tts 14) 0 [(38, B false)] fun a hS => ?_
  refine drawnDone kr ?_
  replace hS := hS.sl ⟨[(38, B false)], []⟩
  exact ⟨Z, _, false, hm, hS.sl _, hO⟩
 rintro a w125 ⟨Z, X124, y114, hm, hS, hO⟩
 unfold VC51_J2 at hm
 refine wcond hS (b := y114) kr (fun hb => ?_) fun hb => ?_
 ·replace hm := hm.1 hb
  refine rPb T hS [(4, I 32)] fun a hS => ?_
  refine wret ?_
  exact fin T hS hO (fun c => c) rfl (r := [.int .i64 32]) kr (fun X' hM hC => ⟨32, hm, rfl⟩)
 replace hm := hm.2 hb
 refine wskip ?_
 refine rPb T hS [(4, I 0)] fun a hS => ?_
 refine wret ?_
 exact fin T hS hO (fun c => c) rfl (r := [.int .i64 0]) kr (fun X' hM hC => ⟨0, hm, rfl⟩)
theorem C51 (k50 : S50) (k62 : S62) (v : ∀ (o_ : Api_Object) (i_ : Int), preRow o_ i_ -> VC51 o_ i_ (fun r => r = object_row o_ i_)) : S51 := by
 intro w X o_ i_ a1 c1   hp h1
 refine (W51 k50 k62 w X o_ i_ a1 c1   _ (v o_ i_ hp) h1).mono ?_
 rintro _ _ _ _ ⟨r, rfl, h⟩
 exact h
theorem W38 (k50 : S50) (k51 : S51) (w0) (X0) (o_ : Api_Object) (a1) (c1) (Q : Int × Int -> Prop) (hm : VC38 o_ Q) (h1 : RS tApi_Row w0 X0 a1 o_.Rows c1) :
  Ret Try.prog 38 #[.agg #[.int .i64 o_.States, .int .i64 o_.Kinds, .int .i64 o_.Init, .slice a1 o_.Rows.length c1]] xnone w0 X0 (fun w X' v => ∃ r, Q r /\ v = .tuple #[.int .i64 r.1, .int .i64 r.2]) := by
 unfold VC38 at hm
 replace hm := hm (h1.sm kr)
 refine enter Try.func38 rfl (vals := [.agg #[.int .i64 o_.States, .int .i64 o_.Kinds, .int .i64 o_.Init, .slice a1 o_.Rows.length c1]]) kr ?_
 intro Z a hS hO hM
 replace h1 := h1.m0 hM
 refine rM T hS ⟨[(1, Pt 2 0)], [(2, (24, (cO o_ a1 c1)))]⟩ fun Z a w128 X129 hS hE hr => ?_
 replace hO := hO.m2 hE
 replace h1 := h1.m1 hE
 clear hE hr
 refine wseq ?_
 refine wcut (fun a w => ∃ (Z : Nat -> Nat) (X : Nat -> Nat) (y101 : Bool), VC38_J1 o_ Q y101 /\ St Try.f38.ntmps ⟨[(1, Pt 2 0), (25, B y101)], [(2, (24, (cO o_ a1 c1)))]⟩ Z a w X /\ Old w0 X0 w X /\ RS tApi_Row w X a1 o_.Rows c1) ?_ ?_
 ·refine region ?_
  refine oPb T hS 3 [(1, Pt 2 0), (8, I (wR (o_.States - 1)))] fun a hS => ?_
  refine op1 (call hS kr kr hb50 kr (fun _ _ => rfl) (k50 _ _ (wR (o_.States - 1)) 32) ?_)
  intro v114 a w115 X116 hE hp hS
  replace hO := hO.m2 hE
  replace h1 := h1.m1 hE
  obtain ⟨r117, hr⟩ : ∃ r, object_within (wR (o_.States - 1)) 32 = r := ⟨_, rfl⟩
  replace hm := hm r117 hr
  rw [hr] at hp
  clear hr
  subst hp
  refine oPb T hS 2 [(1, Pt 2 0), (11, B (!r117))] fun a hS => ?_
  rcases bft (!r117) with hb | hb
  ·replace hS := hS.lit (t := 11) kr hb
   replace hm := hm.1 hb
   refine ePb T hS [(1, Pt 2 0), (25, B true)] fun a hS => ?_
   exact ⟨Z, _, true, hm, hS.sl _, hO, h1⟩
  replace hS := hS.lit (t := 11) kr hb
  replace hm := hm.2 hb
  refine oPb T hS 3 [(1, Pt 2 0), (11, B false), (14, I (wR (o_.Kinds - 1)))] fun a hS => ?_
  refine op1 (call hS kr kr hb50 kr (fun _ _ => rfl) (k50 _ _ (wR (o_.Kinds - 1)) 64) ?_)
  intro v118 a w119 X120 hE hp hS
  replace hO := hO.m2 hE
  replace h1 := h1.m1 hE
  obtain ⟨r121, hr⟩ : ∃ r, object_within (wR (o_.Kinds - 1)) 64 = r := ⟨_, rfl⟩
  replace hm := hm r121 hr
  rw [hr] at hp
  clear hr
  subst hp
  refine oPb T hS 3 [(1, Pt 2 0), (18, B (!r121))] fun a hS => ?_
  rcases bft (!r121) with hb | hb
  ·replace hS := hS.lit (t := 18) kr hb
   replace hm := hm.1 hb
   refine ePb T hS [(1, Pt 2 0), (25, B true)] fun a hS => ?_
   exact ⟨Z, _, true, hm, hS.sl _, hO, h1⟩
  replace hS := hS.lit (t := 18) kr hb
  replace hm := hm.2 hb
  refine oPb T hS 4 [(1, Pt 2 0), (18, B false), (20, I o_.Init), (22, I o_.States)] fun a hS => ?_
  refine op1 (call hS kr kr hb50 kr (fun _ _ => rfl) (k50 _ _ o_.Init o_.States) ?_)
  intro v122 a w123 X124 hE hp hS
  replace hO := hO.m2 hE
  replace h1 := h1.m1 hE
  obtain ⟨r125, hr⟩ : ∃ r, object_within o_.Init o_.States = r := ⟨_, rfl⟩
  replace hm := hm r125 hr
  rw [hr] at hp
  clear hr
  subst hp
  refine ePb T hS [(1, Pt 2 0), (25, B (!r125))] fun a hS => ?_
  exact ⟨Z, _, (!r125), hm, hS.sl _, hO, h1⟩
 rintro a w127 ⟨Z, X126, y101, hm, hS, hO, h102⟩
 unfold VC38_J1 at hm
 refine wcond hS (b := y101) kr (fun hb => ?_) fun hb => ?_
 ·replace hm := hm.1 hb
  refine rP T hS ⟨[(2, I (-1)), (3, I 2)], []⟩ fun a hS => ?_
  refine wret ?_
  exact fin T hS hO (fun c => c) rfl (r := [.int .i64 (-1), .int .i64 2]) kr (fun X' hM hC => ⟨((-1), 2), hm, rfl⟩)
 replace hm := hm.2 hb
 refine wskip ?_
 refine wcut (fun a w => ∃ Z X, VC38_J2 o_ Q /\ St Try.f38.ntmps ⟨[(1, Pt 2 0)], [(2, (24, (cO o_ a1 c1)))]⟩ Z a w X /\ Old w0 X0 w X /\ RS tApi_Row w X a1 o_.Rows c1) ?_ ?_
 ·refine rPb T hS [(1, Pt 2 0), (28, I (lN o_.Rows)), (29, I 0)] fun a hS => ?_
  refine wblock ?_
  obtain ⟨I1, μ1, hm0, hm⟩ := hm
  refine wloop (σ := Int) (fun s a w => ∃ Z X, I1 s /\ St Try.f38.ntmps ⟨[(1, Pt 2 0), (28, I (lN o_.Rows)), (29, I s)], [(2, (24, (cO o_ a1 c1)))]⟩ Z a w X /\ Old w0 X0 w X /\ RS tApi_Row w X a1 o_.Rows c1) (fun s => μ1 s) (0) ?_ ?_
  ·exact ⟨Z, _, hm0, hS.sl _, hO, h102⟩
  rintro y104 a w111 ⟨Z, X110, hI, hS, hO, h105⟩
  replace hm := hm y104 hI
  clear hI hm0
  refine rPb T hS [(1, Pt 2 0), (28, I (lN o_.Rows)), (29, I y104), (30, B (decide (y104 < (lN o_.Rows))))] fun a hS => ?_
  refine wseq ?_
  refine wcond hS (b := decide (y104 < (lN o_.Rows))) kr (fun hb => ?_) fun hb => ?_
  ·replace hm := hm.1 hb
   refine wskip (wseq ?_)
   refine wblock ?_
   refine rPb T hS [(1, Pt 2 0), (4, I y104), (28, I (lN o_.Rows)), (29, I y104)] fun a hS => ?_
   refine regO ?_
   refine oPb T hS 2 [(1, Pt 2 0), (4, I y104), (28, I (lN o_.Rows)), (29, I y104), (32, V (.agg #[.int .i64 o_.States, .int .i64 o_.Kinds, .int .i64 o_.Init, .slice a1 o_.Rows.length c1])), (33, I y104)] fun a hS => ?_
   obtain ⟨hq, hm⟩ := hm
   refine op1 (call hS kr kr hb51 kr (fun _ _ => rfl) (k51 _ _ o_ y104 a1 c1 hq h105) ?_)
   intro v106 a w107 X108 hE hp hS
   replace hO := hO.m2 hE
   replace h105 := h105.m1 hE
   obtain ⟨r109, hr⟩ : ∃ r, object_row o_ y104 = r := ⟨_, rfl⟩
   replace hm := hm r109 hr
   rw [hr] at hp
   clear hr
   subst hp
   refine ePb T hS [(1, Pt 2 0), (4, I y104), (5, I r109), (28, I (lN o_.Rows)), (29, I y104)] fun a hS => ?_
   refine rPb T hS [(1, Pt 2 0), (4, I y104), (5, I r109), (28, I (lN o_.Rows)), (29, I y104), (36, B (r109 != 0))] fun a hS => ?_
   refine wcond hS (b := (r109 != 0)) kr (fun hb => ?_) fun hb => ?_
   ·replace hm := hm.1 hb
    refine rP T hS ⟨[(2, I y104), (3, I r109)], []⟩ fun a hS => ?_
    refine wret ?_
    exact fin T hS hO (fun c => c) rfl (r := [.int .i64 y104, .int .i64 r109]) kr (fun X' hM hC => ⟨(y104, r109), hm, rfl⟩)
   replace hm := hm.2 hb
   refine wskip ?_
   refine region (ePb T hS [(1, Pt 2 0), (28, I (lN o_.Rows)), (29, I (wR (y104 + 1)))] fun a hS => ?_)
   exact ⟨wR (y104 + 1), ⟨Z, _, hm.1, hS.sl _, hO, h105⟩, hm.2⟩
  replace hm := hm.2 hb
  refine wexit (by rfl) ?_
  exact ⟨Z, _, hm, hS.sl _, hO, h105⟩
 rintro a w113 ⟨Z, X112, hm, hS, hO, h103⟩
 unfold VC38_J2 at hm
 refine rP T hS ⟨[(2, I (lN o_.Rows)), (3, I 0)], []⟩ fun a hS => ?_
 refine wret ?_
 exact fin T hS hO (fun c => c) rfl (r := [.int .i64 (lN o_.Rows), .int .i64 0]) kr (fun X' hM hC => ⟨((lN o_.Rows), 0), hm, rfl⟩)
theorem C38 (k50 : S50) (k51 : S51) (v : ∀ (o_ : Api_Object), preO o_ -> VC38 o_ (fun r => r = object_Check o_)) : S38 := by
 intro w X o_ a1 c1   hp h1
 refine (W38 k50 k51 w X o_ a1 c1   _ (v o_ hp) h1).mono ?_
 rintro _ _ _ _ ⟨r, rfl, h⟩
 exact h
theorem W88 (k38 : S38) (w0) (X0) (o_ : Api_Object) (state : Int) (a1) (c1) (Q : Int -> Prop) (hm : VC88 o_ state Q) (h1 : RS tApi_Row w0 X0 a1 o_.Rows c1) :
  Ret Try.prog 88 #[.agg #[.int .i64 o_.States, .int .i64 o_.Kinds, .int .i64 o_.Init, .slice a1 o_.Rows.length c1], .int .i64 state] xnone w0 X0 (fun w X' v => ∃ r, Q r /\ v = .int .i64 r) := by
 unfold VC88 at hm
 replace hm := hm (h1.sm kr)
 refine enter Try.func88 rfl (vals := [.agg #[.int .i64 o_.States, .int .i64 o_.Kinds, .int .i64 o_.Init, .slice a1 o_.Rows.length c1], .int .i64 state]) kr ?_
 intro Z a hS hO hM
 replace h1 := h1.m0 hM
 refine rM T hS ⟨[(1, I state), (2, Pt 3 0)], [(3, (24, (cO o_ a1 c1)))]⟩ fun Z a w105 X106 hS hE hr => ?_
 replace hO := hO.m2 hE
 replace h1 := h1.m1 hE
 clear hE hr
 refine wseq ?_
 refine regO ?_
 refine oPb T hS 1 [(1, I state), (2, Pt 3 0), (8, V (.agg #[.int .i64 o_.States, .int .i64 o_.Kinds, .int .i64 o_.Init, .slice a1 o_.Rows.length c1]))] fun a hS => ?_
 obtain ⟨hq, hm⟩ := hm
 refine op1 (call hS kr kr hb38 kr (fun _ _ => rfl) (k38 _ _ o_ a1 c1 hq h1) ?_)
 intro v101 a w102 X103 hE hp hS
 replace hO := hO.m2 hE
 replace h1 := h1.m1 hE
 obtain ⟨r104, hr⟩ : ∃ r, object_Check o_ = r := ⟨_, rfl⟩
 replace hm := hm r104 hr
 rw [hr] at hp
 clear hr
 subst hp
 refine ePb T hS [(1, I state), (2, Pt 3 0), (6, I r104.2)] fun a hS => ?_
 refine rPb T hS [(1, I state), (2, Pt 3 0), (13, B (r104.2 != 0))] fun a hS => ?_
 refine wcond hS (b := (r104.2 != 0)) kr (fun hb => ?_) fun hb => ?_
 ·replace hm := hm.1 hb
  refine rP T hS ⟨[(4, I 2)], []⟩ fun a hS => ?_
  refine wret ?_
  exact fin T hS hO (fun c => c) rfl (r := [.int .i64 2]) kr (fun X' hM hC => ⟨2, hm, rfl⟩)
 replace hm := hm.2 hb
 refine wskip (wseq ?_)
 refine rP T hS ⟨[(21, B ((decide (state < 0)) || (decide (state ≥ o_.States))))], []⟩ (sp := [16]) fun a hS => ?_
 refine wcond hS (b := ((decide (state < 0)) || (decide (state ≥ o_.States)))) kr (fun hb => ?_) fun hb => ?_
 ·replace hm := hm.1 hb
  refine rPb T hS [(4, I 30)] fun a hS => ?_
  refine wret ?_
  exact fin T hS hO (fun c => c) rfl (r := [.int .i64 30]) kr (fun X' hM hC => ⟨30, hm, rfl⟩)
 replace hm := hm.2 hb
 refine wskip ?_
 refine rPb T hS [(4, I 0)] fun a hS => ?_
 refine wret ?_
 exact fin T hS hO (fun c => c) rfl (r := [.int .i64 0]) kr (fun X' hM hC => ⟨0, hm, rfl⟩)
theorem C88 (k38 : S38) (v : ∀ (o_ : Api_Object) (state : Int), preO1 o_ state -> VC88 o_ state (fun r => r = run_may o_ state)) : S88 := by
 intro w X o_ state a1 c1   hp h1
 refine (W88 k38 w X o_ state a1 c1   _ (v o_ state hp) h1).mono ?_
 rintro _ _ _ _ ⟨r, rfl, h⟩
 exact h
theorem W89 (w0) (X0) (o_ : Api_Object) (l_ : List Api_Oper) (state : Int) (a1) (c1) (a2) (c2) (col1) (col2) (col3) (col4) (col5) (Q : (List Api_Oper) × (List (Int × Int)) × Api_Object × Int -> Prop) (hm : VC89 o_ l_ state Q) (h1 : RS tApi_Row w0 X0 a1 o_.Rows c1) (h2 : RS tApi_Oper w0 X0 a2 l_ c2) :
  Ret Try.prog 89 #[.agg #[.int .i64 o_.States, .int .i64 o_.Kinds, .int .i64 o_.Init, .slice a1 o_.Rows.length c1], .slice a2 l_.length c2, .int .i64 state] xnone w0 X0 (fun w X' v => ∃ r, Q r /\ ∃ ra1 rc1 rr2 ra3 rc3 rb1 rb2 rb3 rb4, v = .func (.func 91) #[] #[.pointer (some ⟨rb1, 0, none⟩), .pointer (some ⟨rb2, 0, none⟩), .pointer (some ⟨rb3, 0, none⟩), .pointer (some ⟨rb4, 0, none⟩)] /\ RS tApi_Oper w X' ra1 r.1 rc1 /\ RS tApi_Row w X' ra3 r.2.2.1.Rows rc3 /\ Cell w X' rb1 col2 28 [.slice ra1 r.1.length rc1] /\ Cell w X' rb2 col3 59 [.map (some rr2)] /\ OM kI tI false w X' col1 rr2 r.2.1 /\ Cell w X' rb3 col4 24 [.int .i64 r.2.2.1.States, .int .i64 r.2.2.1.Kinds, .int .i64 r.2.2.1.Init, .slice ra3 r.2.2.1.Rows.length rc3] /\ Cell w X' rb4 col5 3 [.int .i64 r.2.2.2]) := by
 unfold VC89 at hm
 replace hm := hm (h1.sm kr)
 replace hm := hm (h2.sm kr)
 refine enter Try.func89 rfl (vals := [.agg #[.int .i64 o_.States, .int .i64 o_.Kinds, .int .i64 o_.Init, .slice a1 o_.Rows.length c1], .slice a2 l_.length c2, .int .i64 state]) kr ?_
 intro Z a hS hO hM
 replace h1 := h1.m0 hM
 replace h2 := h2.m0 hM
 refine rM T hS ⟨[(3, Pt 4 0), (4, Pt 5 0), (5, Pt 6 0)], [(4, (24, (cO o_ a1 c1))), (5, (28, [Sl a2 l_ c2])), (6, (3, [I state]))]⟩ fun Z a w107 X108 hS hE hr => ?_
 replace hO := hO.m2 hE
 replace h1 := h1.m1 hE
 replace h2 := h2.m1 hE
 clear hE hr
 refine regO ?_
 refine op1 (mkmap kI tI false 1009 hS kr kr ?_)
 intro r101 a w102 X103 hE h104 hS
 replace hO := hO.m2 hE
 replace h1 := h1.m1 hE
 replace h2 := h2.m1 hE
 refine eM T hS ⟨[(3, Pt 4 0), (4, Pt 5 0), (5, Pt 6 0), (7, Pt 8 0)], [(4, (24, (cO o_ a1 c1))), (5, (28, [Sl a2 l_ c2])), (6, (3, [I state])), (8, (59, [V (.map (some r101))]))]⟩ fun Z a w105 X106 hS hE hr => ?_
 replace hO := hO.m2 hE
 replace h1 := h1.m1 hE
 replace h2 := h2.m1 hE
 replace h104 := h104.m2 hE
 clear hE hr
 refine rPb T hS [(6, .f (.func 91) [] [.p 5 0, .p 8 0, .p 4 0, .p 6 0])] fun a hS => ?_
 refine wret ?_
 exact fin T hS hO (zAa0 col5 col4 col3 col2 col1) rfl (r := [.func (.func 91) #[] #[.pointer (some ⟨Z 5, 0, none⟩), .pointer (some ⟨Z 8, 0, none⟩), .pointer (some ⟨Z 4, 0, none⟩), .pointer (some ⟨Z 6, 0, none⟩)]]) kr (fun X' hM hC => ⟨(l_, ([] : List (Int × Int)), o_, state), hm, a2, c2, r101, a1, c1, (Z 5), (Z 8), (Z 4), (Z 6), rfl, h2.m0 hM, h1.m0 hM, ((hS.cell (id := 5) (t := 28) (cs := [Sl a2 l_ c2]) kr).out (f := (zAa0 col5 col4 col3 col2 col1)) hC kr kr rfl), ((hS.cell (id := 8) (t := 59) (cs := [V (.map (some r101))]) kr).out (f := (zAa0 col5 col4 col3 col2 col1)) hC kr kr rfl), (h104.out (f := (zAa0 col5 col4 col3 col2 col1)) hM hC kr kr), ((hS.cell (id := 4) (t := 24) (cs := (cO o_ a1 c1)) kr).out (f := (zAa0 col5 col4 col3 col2 col1)) hC kr kr rfl), ((hS.cell (id := 6) (t := 3) (cs := [I state]) kr).out (f := (zAa0 col5 col4 col3 col2 col1)) hC kr kr rfl)⟩)
theorem C89 (v : ∀ (o_ : Api_Object) (l_ : List Api_Oper) (state : Int), VC89 o_ l_ state (fun r => r = run_runner o_ l_ state)) : S89 := by
 intro w X o_ l_ state a1 c1 a2 c2 col1 col2 col3 col4 col5  h1 h2
 refine (W89 w X o_ l_ state a1 c1 a2 c2 col1 col2 col3 col4 col5  _ (v o_ l_ state) h1 h2).mono ?_
 rintro _ _ _ _ ⟨r, rfl, h⟩
 exact h
theorem W77 (w0) (X0) (r_ : Api_Row) (cap1 : Int) (cap2 : Int) (b1) (i1) (b2) (i2) (Q : Bool -> Prop) (hm : VC77 r_ cap1 cap2 Q) (hc1 : Cell w0 X0 b1 i1 3 [.int .i64 cap1]) (hc2 : Cell w0 X0 b2 i2 3 [.int .i64 cap2]) (hA : Apart [i1, i2]) :
  Ret Try.prog 77 #[.agg #[.int .i64 r_.State, .int .i64 r_.Kind, .int .i64 r_.Next, .int .i64 r_.Result], .pointer (some ⟨b1, 0, none⟩), .pointer (some ⟨b2, 0, none⟩)] (pR [i1, i2]) w0 X0 (fun w X' v => ∃ r, Q r /\ v = .bool r /\ Cell w X' b1 i1 3 [.int .i64 cap1] /\ Cell w X' b2 i2 3 [.int .i64 cap2]) := by
 unfold VC77 at hm
 refine enterR Try.func77 rfl (f0of [(i1, 901), (i2, 902)]) (fun id => (bif Nat.beq id 901 then b1 else (bif Nat.beq id 902 then b2 else 0))) (args := [V (.agg #[.int .i64 r_.State, .int .i64 r_.Kind, .int .i64 r_.Next, .int .i64 r_.Result]), Pt 901 0, Pt 902 0]) (bxs := [(901, (3, [I cap1])), (902, (3, [I cap2]))]) kr rfl (BoxesOK.cons kr (hc1.map (f0of_at 0 hA.1 rfl)) (BoxesOK.cons kr (hc2.map (f0of_at 1 hA.1 rfl)) BoxesOK.nil)) (f0of_0 (fun q hq => (hA.2 q.1 (List.mem_map.2 ⟨q, hq, rfl⟩)).1)) ?_
 intro a hS hO hM
 have hP : Pin [(901, b1), (902, b2)] (fun id => (bif Nat.beq id 901 then b1 else (bif Nat.beq id 902 then b2 else 0))) := by intro q hq; simp at hq; rcases hq with rfl | rfl <;> rfl
 generalize (fun id => (bif Nat.beq id 901 then b1 else (bif Nat.beq id 902 then b2 else 0))) = Z at hS hP
 clear hc1 hc2
 refine rM T hS ⟨[(1, Pt 901 0), (2, Pt 902 0), (3, Pt 4 0)], [(4, (76, (cR r_))), (901, (3, [I cap1])), (902, (3, [I cap2]))]⟩ fun Z a w101 X102 hS hE hr => ?_
 replace hO := hO.m2 hE
 replace hP := hP.mv hr kr
 clear hE hr
 refine regO ?_
 refine oP T hS 8 ⟨[(5, V (.agg #[.int .i64 r_.State, .int .i64 r_.Kind, .int .i64 r_.Next, .int .i64 r_.Result])), (12, V (.agg #[.int .i64 cap1, .int .i64 cap2, .int .i64 r_.Next, .int .i64 r_.Result]))], [(901, (3, [I cap1])), (902, (3, [I cap2]))]⟩ fun a hS => ?_
 refine op1 (structEq (op := .eql) (xs := [.int .i64 r_.State, .int .i64 r_.Kind, .int .i64 r_.Next, .int .i64 r_.Result]) (ys := [.int .i64 cap1, .int .i64 cap2, .int .i64 r_.Next, .int .i64 r_.Result]) (r := (r_.State == cap1 && (r_.Kind == cap2 && (r_.Next == r_.Next && (r_.Result == r_.Result && true))))) (b := (r_.State == cap1 && (r_.Kind == cap2 && (r_.Next == r_.Next && (r_.Result == r_.Result && true))))) T hS kr kr kr kr kr kr kr kr ?_)
 intro a hS
 refine ePb T hS [(4, B (r_.State == cap1 && (r_.Kind == cap2 && (r_.Next == r_.Next && (r_.Result == r_.Result && true)))))] fun a hS => ?_
 refine wret ?_
 exact finR T hS hO (fun c h => f0of_zero kr h) (fun c h => f0of_else (l := [(i1, 901), (i2, 902)]) h) (f1of [(i1, 901), (i2, 902)]) rfl (r := [.bool (r_.State == cap1 && (r_.Kind == cap2 && (r_.Next == r_.Next && (r_.Result == r_.Result && true))))]) kr (fun X' hM hC => ⟨(r_.State == cap1 && (r_.Kind == cap2 && (r_.Next == r_.Next && (r_.Result == r_.Result && true)))), hm, rfl, ((hS.cell (id := 901) (t := 3) (cs := [I cap1]) kr).out (f := (f1of [(i1, 901), (i2, 902)])) hC kr kr (hP.at 0 rfl)), ((hS.cell (id := 902) (t := 3) (cs := [I cap2]) kr).out (f := (f1of [(i1, 901), (i2, 902)])) hC kr kr (hP.at 1 rfl))⟩)
theorem C77 (v : ∀ (r_ : Api_Row) (cap1 : Int) (cap2 : Int), VC77 r_ cap1 cap2 (fun r => r = object_Move_1 r_ cap1 cap2)) : S77 := by
 intro w X r_ cap1 cap2   b1 i1 b2 i2 hc1 hc2 hA
 refine (W77 w X r_ cap1 cap2   b1 i1 b2 i2 _ (v r_ cap1 cap2) hc1 hc2 hA).mono ?_
 rintro _ _ _ _ ⟨r, rfl, h⟩
 exact h
theorem W78_77 (k77 : S77) (w0) (X0) (s_ : List Api_Row) (cap1 : Int) (cap2 : Int) (a1) (c1) (b1) (i1) (b2) (i2) (Q : Int -> Prop) (hm : VC78_77 s_ cap1 cap2 Q) (h1 : RS tApi_Row w0 X0 a1 s_ c1) (hc1 : Cell w0 X0 b1 i1 3 [.int .i64 cap1]) (hc2 : Cell w0 X0 b2 i2 3 [.int .i64 cap2]) (hA : Apart [i1, i2]) :
  Ret Try.prog 78 #[.slice a1 s_.length c1, .func (.func 77) #[] #[.pointer (some ⟨b1, 0, none⟩), .pointer (some ⟨b2, 0, none⟩)]] (pR [i1, i2]) w0 X0 (fun w X' v => ∃ r, Q r /\ v = .int .i64 r /\ Cell w X' b1 i1 3 [.int .i64 cap1] /\ Cell w X' b2 i2 3 [.int .i64 cap2]) := by
 unfold VC78_77 at hm
 replace hm := hm (h1.sm kr)
 refine enterR Try.func78 rfl (f0of [(i1, 901), (i2, 902)]) (fun id => (bif Nat.beq id 901 then b1 else (bif Nat.beq id 902 then b2 else 0))) (args := [Sl a1 s_ c1, .f (.func 77) [] [.p 901 0, .p 902 0]]) (bxs := [(901, (3, [I cap1])), (902, (3, [I cap2]))]) kr rfl (BoxesOK.cons kr (hc1.map (f0of_at 0 hA.1 rfl)) (BoxesOK.cons kr (hc2.map (f0of_at 1 hA.1 rfl)) BoxesOK.nil)) (f0of_0 (fun q hq => (hA.2 q.1 (List.mem_map.2 ⟨q, hq, rfl⟩)).1)) ?_
 intro a hS hO hM
 have hP : Pin [(901, b1), (902, b2)] (fun id => (bif Nat.beq id 901 then b1 else (bif Nat.beq id 902 then b2 else 0))) := by intro q hq; simp at hq; rcases hq with rfl | rfl <;> rfl
 generalize (fun id => (bif Nat.beq id 901 then b1 else (bif Nat.beq id 902 then b2 else 0))) = Z at hS hP
 clear hc1 hc2
 replace h1 := h1.m0 hM
 refine rPb T hS [(0, Sl a1 s_ c1), (1, .f (.func 77) [] [.p 901 0, .p 902 0])] fun a hS => ?_
 refine wcut (fun a w => ∃ Z X, VC78_77_J1 Q /\ St Try.f78.ntmps ⟨[], [(901, (3, [I cap1])), (902, (3, [I cap2]))]⟩ Z a w X /\ OldR (f0of [(i1, 901), (i2, 902)]) w0 X0 w X /\ Pin [(901, b1), (902, b2)] Z) ?_ ?_
 ·refine rPb T hS [(0, Sl a1 s_ c1), (1, .f (.func 77) [] [.p 901 0, .p 902 0]), (7, I (lN s_)), (8, I 0)] fun a hS => ?_
  refine wblock ?_
  obtain ⟨I1, μ1, hm0, hm⟩ := hm
  refine wloop (σ := Int) (fun s a w => ∃ Z X, I1 s /\ St Try.f78.ntmps ⟨[(0, Sl a1 s_ c1), (1, .f (.func 77) [] [.p 901 0, .p 902 0]), (7, I (lN s_)), (8, I s)], [(901, (3, [I cap1])), (902, (3, [I cap2]))]⟩ Z a w X /\ OldR (f0of [(i1, 901), (i2, 902)]) w0 X0 w X /\ Pin [(901, b1), (902, b2)] Z /\ RS tApi_Row w X a1 s_ c1) (fun s => μ1 s) (0) ?_ ?_
  ·exact ⟨Z, _, hm0, hS.sl _, hO, hP, h1⟩
  rintro y102 a w113 ⟨Z, X112, hI, hS, hO, hP, h101⟩
  replace hm := hm y102 hI
  clear hI hm0
  refine rPb T hS [(0, Sl a1 s_ c1), (1, .f (.func 77) [] [.p 901 0, .p 902 0]), (7, I (lN s_)), (8, I y102), (9, B (decide (y102 < (lN s_))))] fun a hS => ?_
  refine wseq ?_
  refine wcond hS (b := decide (y102 < (lN s_))) kr (fun hb => ?_) fun hb => ?_
  ·replace hm := hm.1 hb
   refine wskip (wseq ?_)
   refine wblock ?_
   refine rPb T hS [(0, Sl a1 s_ c1), (1, .f (.func 77) [] [.p 901 0, .p 902 0]), (5, I y102), (7, I (lN s_)), (8, I y102)] fun a hS => ?_
   refine regO ?_
   refine oPb T hS 3 [(0, Sl a1 s_ c1), (1, .f (.func 77) [] [.p 901 0, .p 902 0]), (5, I y102), (7, I (lN s_)), (8, I y102), (11, .f (.func 77) [] [.p 901 0, .p 902 0]), (12, Sl a1 s_ c1), (13, I y102)] fun a hS => ?_
   obtain ⟨hq, hm⟩ := hm
   refine op1 (index (e := 76) (k := .i64) T hS kr kr kr kr h101 kr kr hq.1 hq.2 ?_)
   intro A103 a h104 hS
   refine op1 (loadA T hS kr kr kr h104 kr kr ?_)
   intro v105 a hv hS
   subst hv
   refine op1 (callCR (fi := []) (cp := [.p 901 0, .p 902 0]) hS kr kr hb77 kr kr (k77 _ _ (gi s_ y102) cap1 cap2 (Z 901) 901 (Z 902) 902 (hS.cell (id := 901) (t := 3) (cs := [I cap1]) kr) (hS.cell (id := 902) (t := 3) (cs := [I cap2]) kr) ⟨by decide, by decide⟩) ?_)
   intro v106 a w107 X108 hE hp hS
   replace hO := hO.m2 hE
   replace h101 := h101.m1 hE
   replace h104 := h104.m1 hE
   obtain ⟨hp, hc110, hc111⟩ := hp
   obtain ⟨r109, hr⟩ : ∃ r, object_Move_1 (gi s_ y102) cap1 cap2 = r := ⟨_, rfl⟩
   replace hm := hm r109 hr
   rw [hr] at hp
   clear hr
   subst hp
   replace hS := hS.addbox (id := 901) (t := 3) (cs := [I cap1]) kr hc110
   replace hS := hS.addbox (id := 902) (t := 3) (cs := [I cap2]) kr hc111
   clear hc110 hc111
   refine doneK ?_
   refine wcond hS (b := r109) kr (fun hb => ?_) fun hb => ?_
   ·replace hm := hm.1 hb
    refine rPb T hS [(4, I y102)] fun a hS => ?_
    refine wret ?_
    exact finR T hS hO (fun c h => f0of_zero kr h) (fun c h => f0of_else (l := [(i1, 901), (i2, 902)]) h) (f1of [(i1, 901), (i2, 902)]) rfl (r := [.int .i64 y102]) kr (fun X' hM hC => ⟨y102, hm, rfl, ((hS.cell (id := 901) (t := 3) (cs := [I cap1]) kr).out (f := (f1of [(i1, 901), (i2, 902)])) hC kr kr (hP.at 0 rfl)), ((hS.cell (id := 902) (t := 3) (cs := [I cap2]) kr).out (f := (f1of [(i1, 901), (i2, 902)])) hC kr kr (hP.at 1 rfl))⟩)
   replace hm := hm.2 hb
   refine wskip ?_
   refine region (ePb T hS [(0, Sl a1 s_ c1), (1, .f (.func 77) [] [.p 901 0, .p 902 0]), (7, I (lN s_)), (8, I (wR (y102 + 1)))] fun a hS => ?_)
   exact ⟨wR (y102 + 1), ⟨Z, _, hm.1, hS.sl _, hO, hP, h101⟩, hm.2⟩
  replace hm := hm.2 hb
  refine wexit (by rfl) ?_
  exact ⟨Z, _, hm, hS.sl _, hO, hP⟩
 rintro a w115 ⟨Z, X114, hm, hS, hO, hP⟩
 unfold VC78_77_J1 at hm
 refine rPb T hS [(4, I (-1))] fun a hS => ?_
 refine wret ?_
 exact finR T hS hO (fun c h => f0of_zero kr h) (fun c h => f0of_else (l := [(i1, 901), (i2, 902)]) h) (f1of [(i1, 901), (i2, 902)]) rfl (r := [.int .i64 (-1)]) kr (fun X' hM hC => ⟨(-1), hm, rfl, ((hS.cell (id := 901) (t := 3) (cs := [I cap1]) kr).out (f := (f1of [(i1, 901), (i2, 902)])) hC kr kr (hP.at 0 rfl)), ((hS.cell (id := 902) (t := 3) (cs := [I cap2]) kr).out (f := (f1of [(i1, 901), (i2, 902)])) hC kr kr (hP.at 1 rfl))⟩)
theorem C78_77 (k77 : S77) (v : ∀ (s_ : List Api_Row) (cap1 : Int) (cap2 : Int), VC78_77 s_ cap1 cap2 (fun r => r = slices_IndexFunc_api_Row_api_Row_object_Move_1 s_ cap1 cap2)) : S78_77 := by
 intro w X s_ cap1 cap2 a1 c1  b1 i1 b2 i2 h1 hc1 hc2 hA
 refine (W78_77 k77 w X s_ cap1 cap2 a1 c1  b1 i1 b2 i2 _ (v s_ cap1 cap2) h1 hc1 hc2 hA).mono ?_
 rintro _ _ _ _ ⟨r, rfl, h⟩
 exact h
theorem W67 (k78_77 : S78_77) (w0) (X0) (o_ : Api_Object) (state : Int) (kind : Int) (a1) (c1) (Q : Int × Int × Bool -> Prop) (hm : VC67 o_ state kind Q) (h1 : RS tApi_Row w0 X0 a1 o_.Rows c1) :
  Ret Try.prog 67 #[.agg #[.int .i64 o_.States, .int .i64 o_.Kinds, .int .i64 o_.Init, .slice a1 o_.Rows.length c1], .int .i64 state, .int .i64 kind] xnone w0 X0 (fun w X' v => ∃ r, Q r /\ v = .tuple #[.int .i64 r.1, .int .i64 r.2.1, .bool r.2.2]) := by
 unfold VC67 at hm
 replace hm := hm (h1.sm kr)
 refine enter Try.func67 rfl (vals := [.agg #[.int .i64 o_.States, .int .i64 o_.Kinds, .int .i64 o_.Init, .slice a1 o_.Rows.length c1], .int .i64 state, .int .i64 kind]) kr ?_
 intro Z a hS hO hM
 replace h1 := h1.m0 hM
 refine rM T hS ⟨[(3, Pt 4 0), (4, Pt 5 0), (5, Pt 6 0)], [(4, (24, (cO o_ a1 c1))), (5, (3, [I state])), (6, (3, [I kind]))]⟩ fun Z a w119 X120 hS hE hr => ?_
 replace hO := hO.m2 hE
 replace h1 := h1.m1 hE
 clear hE hr
 refine rPb T hS [(3, Pt 4 0), (9, .f (.func 77) [] [.p 5 0, .p 6 0])] fun a hS => ?_
 refine regO ?_
 refine oPb T hS 3 [(3, Pt 4 0), (13, Sl a1 o_.Rows c1), (14, .f (.func 77) [] [.p 5 0, .p 6 0])] fun a hS => ?_
 refine op1 (callR hS kr kr hb78 kr (k78_77 _ _ o_.Rows state kind a1 c1 (Z 5) 5 (Z 6) 6 h1 (hS.cell (id := 5) (t := 3) (cs := [I state]) kr) (hS.cell (id := 6) (t := 3) (cs := [I kind]) kr) ⟨by decide, by decide⟩) ?_)
 intro v101 a w102 X103 hE hp hS
 replace hO := hO.m2 hE
 replace h1 := h1.m1 hE
 obtain ⟨hp, hc105, hc106⟩ := hp
 obtain ⟨r104, hr⟩ : ∃ r, slices_IndexFunc_api_Row_api_Row_object_Move_1 o_.Rows state kind = r := ⟨_, rfl⟩
 replace hm := hm r104 hr
 rw [hr] at hp
 clear hr
 subst hp
 replace hS := hS.addbox (id := 5) (t := 3) (cs := [I state]) kr hc105
 replace hS := hS.addbox (id := 6) (t := 3) (cs := [I kind]) kr hc106
 clear hc105 hc106
 refine eP T hS ⟨[(3, Pt 4 0), (10, I r104)], [(4, (24, (cO o_ a1 c1)))]⟩ fun a hS => ?_
 refine wseq ?_
 refine rPb T hS [(3, Pt 4 0), (10, I r104), (17, B (decide (r104 < 0)))] fun a hS => ?_
 refine wcond hS (b := decide (r104 < 0)) kr (fun hb => ?_) fun hb => ?_
 ·replace hm := hm.1 hb
  refine rP T hS ⟨[(6, I 0), (7, I 0), (8, B false)], []⟩ fun a hS => ?_
  refine wret ?_
  exact fin T hS hO (fun c => c) rfl (r := [.int .i64 0, .int .i64 0, .bool false]) kr (fun X' hM hC => ⟨(0, 0, false), hm, rfl⟩)
 replace hm := hm.2 hb
 refine wskip ?_
 refine drawnSX [4] mixed hS ?_
 intro w107 X108 hS hE hD hH
 replace hO := hO.m2 hE
 replace h1 := h1.m1 hE
 refine tkb T [0, 2, 6, 8, 1, 7] [4] hS hH #[true, true, true, false, false, false, true, true, true, false, false, false, false, false, false] 9 [(19, Sl a1 o_.Rows c1), (20, I r104), (25, Sl a1 o_.Rows c1), (26, I r104)] fun a hS => ?_
 obtain ⟨hq, hm⟩ := hm
 refine dindex (e := 76) (k := .i64) T 3 hS kr kr kr (by rfl) kr hH kr kr h1 kr kr hq.1 hq.2 ?_
 intro A109 a h110 hS
 have h110b := h110.here
 refine dfieldA (off := 2) (fsz := 1) (ft := 3) (TF := tI) (y := (gi o_.Rows r104).Next) 4 T hS kr kr kr (by rfl) kr hH kr h110 kr kr kr (fun cs h => Api_Row_f2 h) ?_
 intro A111 a h112 hbl hS
 have h112b := h110b
 rw [← hbl] at h112b
 clear hbl
 refine dload1 T 5 hS kr kr kr (by rfl) kr hH kr h112 h112b rfl kr ?_
 intro v113 a hv hS
 cases hv
 refine tkb T [12] [4] hS hH #[true, true, true, true, true, true, true, true, true, false, false, false, true, false, false] 5 [(6, I ((gi o_.Rows r104).Next)), (25, Sl a1 o_.Rows c1), (26, I r104)] fun a hS => ?_
 obtain ⟨hq, hm⟩ := hm
 refine dindex (e := 76) (k := .i64) T 9 hS kr kr kr (by rfl) kr hH kr kr h1 kr kr hq.1 hq.2 ?_
 intro A114 a h115 hS
 have h115b := h115.here
 refine dfieldA (off := 3) (fsz := 1) (ft := 3) (TF := tI) (y := (gi o_.Rows r104).Result) 10 T hS kr kr kr (by rfl) kr hH kr h115 kr kr kr (fun cs h => Api_Row_f3 h) ?_
 intro A116 a h117 hbl hS
 have h117b := h115b
 rw [← hbl] at h117b
 clear hbl
 refine dload1 T 11 hS kr kr kr (by rfl) kr hH kr h117 h117b rfl kr ?_
 intro v118 a hv hS
 cases hv
 refine tkb T [13, 14] [4] hS hH (tts 15) 0 [(6, I ((gi o_.Rows r104).Next)), (7, I ((gi o_.Rows r104).Result)), (8, B true)] fun a hS => ?_
 refine drawnDone kr ?_
 replace hS := hS.sl ⟨[(6, I ((gi o_.Rows r104).Next)), (7, I ((gi o_.Rows r104).Result)), (8, B true)], []⟩
 refine wret ?_
 exact fin T hS hO (fun c => c) rfl (r := [.int .i64 ((gi o_.Rows r104).Next), .int .i64 ((gi o_.Rows r104).Result), .bool true]) kr (fun X' hM hC => ⟨((gi o_.Rows r104).Next, (gi o_.Rows r104).Result, true), hm, rfl⟩)
theorem C67 (k78_77 : S78_77) (v : ∀ (o_ : Api_Object) (state : Int) (kind : Int), VC67 o_ state kind (fun r => r = object_Move o_ state kind)) : S67 := by
 intro w X o_ state kind a1 c1   h1
 refine (W67 k78_77 w X o_ state kind a1 c1   _ (v o_ state kind) h1).mono ?_
 rintro _ _ _ _ ⟨r, rfl, h⟩
 exact h
theorem W94 (k67 : S67) (w0) (X0) (t_ : Run_table) (state : Int) (kind : Int) (a1) (c1) (Q : Int × Int × Bool -> Prop) (hm : VC94 t_ state kind Q) (h1 : RS tApi_Row w0 X0 a1 t_.o.Rows c1) :
  Ret Try.prog 94 #[.agg #[.int .i64 t_.o.States, .int .i64 t_.o.Kinds, .int .i64 t_.o.Init, .slice a1 t_.o.Rows.length c1], .int .i64 state, .int .i64 kind] xnone w0 X0 (fun w X' v => ∃ r, Q r /\ v = .tuple #[.int .i64 r.1, .int .i64 r.2.1, .bool r.2.2]) := by
 unfold VC94 at hm
 replace hm := hm (h1.sm kr)
 refine enter Try.func94 rfl (vals := [.agg #[.int .i64 t_.o.States, .int .i64 t_.o.Kinds, .int .i64 t_.o.Init, .slice a1 t_.o.Rows.length c1], .int .i64 state, .int .i64 kind]) kr ?_
 intro Z a hS hO hM
 replace h1 := h1.m0 hM
 refine rM T hS ⟨[(1, I state), (2, I kind), (3, Pt 4 0)], [(4, (149, (cO t_.o a1 c1)))]⟩ fun Z a w105 X106 hS hE hr => ?_
 replace hO := hO.m2 hE
 replace h1 := h1.m1 hE
 clear hE hr
 refine regO ?_
 refine oP T hS 4 ⟨[(10, V (.agg #[.int .i64 t_.o.States, .int .i64 t_.o.Kinds, .int .i64 t_.o.Init, .slice a1 t_.o.Rows.length c1])), (11, I state), (12, I kind)], []⟩ fun a hS => ?_
 refine op1 (call hS kr kr hb67 kr (fun _ _ => rfl) (k67 _ _ t_.o state kind a1 c1 h1) ?_)
 intro v101 a w102 X103 hE hp hS
 replace hO := hO.m2 hE
 replace h1 := h1.m1 hE
 obtain ⟨r104, hr⟩ : ∃ r, object_Move t_.o state kind = r := ⟨_, rfl⟩
 replace hm := hm r104 hr
 rw [hr] at hp
 clear hr
 subst hp
 refine ePb T hS [(6, I r104.1), (7, I r104.2.1), (8, B r104.2.2)] fun a hS => ?_
 refine wret ?_
 exact fin T hS hO (fun c => c) rfl (r := [.int .i64 r104.1, .int .i64 r104.2.1, .bool r104.2.2]) kr (fun X' hM hC => ⟨(r104.1, r104.2.1, r104.2.2), hm, rfl⟩)
theorem C94 (k67 : S67) (v : ∀ (t_ : Run_table) (state : Int) (kind : Int), VC94 t_ state kind (fun r => r = run_table_move t_ state kind)) : S94 := by
 intro w X t_ state kind a1 c1   h1
 refine (W94 k67 w X t_ state kind a1 c1   _ (v t_ state kind) h1).mono ?_
 rintro _ _ _ _ ⟨r, rfl, h⟩
 exact h
theorem W92 (k94 : S94) (w0) (X0) (o_ : Api_Object) (state : Int) (kind : Int) (result : Int) (a1) (c1) (Q : Int × Int -> Prop) (hm : VC92 o_ state kind result Q) (h1 : RS tApi_Row w0 X0 a1 o_.Rows c1) :
  Ret Try.prog 92 #[.agg #[.int .i64 o_.States, .int .i64 o_.Kinds, .int .i64 o_.Init, .slice a1 o_.Rows.length c1], .int .i64 state, .int .i64 kind, .int .i64 result] xnone w0 X0 (fun w X' v => ∃ r, Q r /\ v = .tuple #[.int .i64 r.1, .int .i64 r.2]) := by
 unfold VC92 at hm
 replace hm := hm (h1.sm kr)
 refine enter Try.func92 rfl (vals := [.agg #[.int .i64 o_.States, .int .i64 o_.Kinds, .int .i64 o_.Init, .slice a1 o_.Rows.length c1], .int .i64 state, .int .i64 kind, .int .i64 result]) kr ?_
 intro Z a hS hO hM
 replace h1 := h1.m0 hM
 refine rM T hS ⟨[(1, I state), (2, I kind), (3, I result), (4, Pt 5 0)], [(5, (24, (cO o_ a1 c1)))]⟩ fun Z a w105 X106 hS hE hr => ?_
 replace hO := hO.m2 hE
 replace h1 := h1.m1 hE
 clear hE hr
 refine wseq ?_
 refine rPb T hS [(1, I state), (2, I kind), (3, I result), (4, Pt 5 0), (20, B ((decide (state < 0)) || (decide (state ≥ o_.States))))] (sp := [15]) fun a hS => ?_
 refine wcond hS (b := ((decide (state < 0)) || (decide (state ≥ o_.States)))) kr (fun hb => ?_) fun hb => ?_
 ·replace hm := hm.1 hb
  refine rP T hS ⟨[(8, I 0), (9, I 30)], []⟩ fun a hS => ?_
  refine wret ?_
  exact fin T hS hO (fun c => c) rfl (r := [.int .i64 0, .int .i64 30]) kr (fun X' hM hC => ⟨(0, 30), hm, rfl⟩)
 replace hm := hm.2 hb
 refine wskip ?_
 refine rP T hS ⟨[(1, I state), (2, I kind), (3, I result), (10, .f (.func 94) [.v (.agg #[.int .i64 o_.States, .int .i64 o_.Kinds, .int .i64 o_.Init, .slice a1 o_.Rows.length c1])] [])], []⟩ fun a hS => ?_
 refine regO ?_
 refine oPb T hS 3 [(3, I result), (25, .f (.func 94) [.v (.agg #[.int .i64 o_.States, .int .i64 o_.Kinds, .int .i64 o_.Init, .slice a1 o_.Rows.length c1])] []), (26, I state), (27, I kind)] fun a hS => ?_
 refine op1 (callC (fi := [.v (.agg #[.int .i64 o_.States, .int .i64 o_.Kinds, .int .i64 o_.Init, .slice a1 o_.Rows.length c1])]) (cp := []) hS kr kr hb94 kr kr (fun _ _ => rfl) (k94 _ _ (⟨o_⟩ : Run_table) state kind a1 c1 h1) ?_)
 intro v101 a w102 X103 hE hp hS
 replace hO := hO.m2 hE
 replace h1 := h1.m1 hE
 obtain ⟨r104, hr⟩ : ∃ r, run_table_move (⟨o_⟩ : Run_table) state kind = r := ⟨_, rfl⟩
 replace hm := hm r104 hr
 rw [hr] at hp
 clear hr
 subst hp
 refine ePb T hS [(3, I result), (8, I r104.1), (11, I r104.2.1), (12, B r104.2.2)] fun a hS => ?_
 refine wseq ?_
 refine rPb T hS [(8, I r104.1), (38, B ((!r104.2.2) || (r104.2.1 != result)))] (sp := [34]) fun a hS => ?_
 refine wcond hS (b := ((!r104.2.2) || (r104.2.1 != result))) kr (fun hb => ?_) fun hb => ?_
 ·replace hm := hm.1 hb
  refine rPb T hS [(8, I 0), (9, I 40)] fun a hS => ?_
  refine wret ?_
  exact fin T hS hO (fun c => c) rfl (r := [.int .i64 0, .int .i64 40]) kr (fun X' hM hC => ⟨(0, 40), hm, rfl⟩)
 replace hm := hm.2 hb
 refine wskip ?_
 refine rPb T hS [(8, I r104.1), (9, I 0)] fun a hS => ?_
 refine wret ?_
 exact fin T hS hO (fun c => c) rfl (r := [.int .i64 r104.1, .int .i64 0]) kr (fun X' hM hC => ⟨(r104.1, 0), hm, rfl⟩)
theorem C92 (k94 : S94) (v : ∀ (o_ : Api_Object) (state : Int) (kind : Int) (result : Int), VC92 o_ state kind result (fun r => r = run_Step o_ state kind result)) : S92 := by
 intro w X o_ state kind result a1 c1   h1
 refine (W92 k94 w X o_ state kind result a1 c1   _ (v o_ state kind result) h1).mono ?_
 rintro _ _ _ _ ⟨r, rfl, h⟩
 exact h
theorem W91 (k92 : S92) (w0) (X0) (p_ : Api_Pick) (cap1 : List Api_Oper) (cap2 : List (Int × Int)) (cap3 : Api_Object) (cap4 : Int) (a1) (c1) (r2) (m2) (a3) (c3) (b1) (i1) (b2) (i2) (b3) (i3) (b4) (i4) (Q : Int × Int × (List (Int × Int)) × Int -> Prop) (hm : VC91 p_ cap1 cap2 cap3 cap4 Q) (h1 : RS tApi_Oper w0 X0 a1 cap1 c1) (h2 : OM kI tI false w0 X0 m2 r2 cap2) (h3 : RS tApi_Row w0 X0 a3 cap3.Rows c3) (hc1 : Cell w0 X0 b1 i1 28 [.slice a1 cap1.length c1]) (hc2 : Cell w0 X0 b2 i2 59 [.map (some r2)]) (hc3 : Cell w0 X0 b3 i3 24 [.int .i64 cap3.States, .int .i64 cap3.Kinds, .int .i64 cap3.Init, .slice a3 cap3.Rows.length c3]) (hc4 : Cell w0 X0 b4 i4 3 [.int .i64 cap4]) (hA : Apart [i1, i2, i3, i4, m2]) :
  Ret Try.prog 91 #[.agg #[.int .i64 p_.Oper, .int .i64 p_.Result], .pointer (some ⟨b1, 0, none⟩), .pointer (some ⟨b2, 0, none⟩), .pointer (some ⟨b3, 0, none⟩), .pointer (some ⟨b4, 0, none⟩)] (pR [i1, i2, i3, i4, m2]) w0 X0 (fun w X' v => ∃ r, Q r /\ v = .tuple #[.int .i64 r.1, .int .i64 r.2.1] /\ Cell w X' b1 i1 28 [.slice a1 cap1.length c1] /\ Cell w X' b2 i2 59 [.map (some r2)] /\ OM kI tI false w X' m2 r2 r.2.2.1 /\ Cell w X' b3 i3 24 [.int .i64 cap3.States, .int .i64 cap3.Kinds, .int .i64 cap3.Init, .slice a3 cap3.Rows.length c3] /\ Cell w X' b4 i4 3 [.int .i64 r.2.2.2]) := by
 unfold VC91 at hm
 replace hm := hm (h1.sm kr)
 replace hm := hm (h3.sm kr)
 refine enterR Try.func91 rfl (f0of (zAa2 i1 i2 i3 i4 m2)) (fun id => (bif Nat.beq id 901 then b1 else (bif Nat.beq id 902 then b2 else (bif Nat.beq id 903 then b3 else (bif Nat.beq id 904 then b4 else 0))))) (args := [V (.agg #[.int .i64 p_.Oper, .int .i64 p_.Result]), Pt 901 0, Pt 902 0, Pt 903 0, Pt 904 0]) (bxs := [(901, (28, [Sl a1 cap1 c1])), (902, (59, [V (.map (some r2))])), (903, (24, (cO cap3 a3 c3))), (904, (3, [I cap4]))]) kr rfl (BoxesOK.cons kr (hc1.map (f0of_at 0 hA.1 rfl)) (BoxesOK.cons kr (hc2.map (f0of_at 1 hA.1 rfl)) (BoxesOK.cons kr (hc3.map (f0of_at 2 hA.1 rfl)) (BoxesOK.cons kr (hc4.map (f0of_at 3 hA.1 rfl)) BoxesOK.nil)))) (f0of_0 (fun q hq => (hA.2 q.1 (List.mem_map.2 ⟨q, hq, rfl⟩)).1)) ?_
 intro a hS hO hM
 have hP : Pin [(901, b1), (902, b2), (903, b3), (904, b4)] (fun id => (bif Nat.beq id 901 then b1 else (bif Nat.beq id 902 then b2 else (bif Nat.beq id 903 then b3 else (bif Nat.beq id 904 then b4 else 0))))) := by intro q hq; simp at hq; rcases hq with rfl | rfl | rfl | rfl <;> rfl
 generalize (fun id => (bif Nat.beq id 901 then b1 else (bif Nat.beq id 902 then b2 else (bif Nat.beq id 903 then b3 else (bif Nat.beq id 904 then b4 else 0))))) = Z at hS hP
 clear hc1 hc2 hc3 hc4
 replace h1 := h1.m0 hM
 replace h2 := h2.map (f := f0of (zAa2 i1 i2 i3 i4 m2)) (f0of_at 4 hA.1 rfl) hM
 replace h3 := h3.m0 hM
 refine rM T hS ⟨[(1, Pt 901 0), (2, Pt 902 0), (3, Pt 903 0), (4, Pt 904 0), (5, Pt 6 0)], [(6, (109, (cK p_))), (901, (28, [Sl a1 cap1 c1])), (902, (59, [V (.map (some r2))])), (903, (24, (cO cap3 a3 c3))), (904, (3, [I cap4]))]⟩ fun Z a w122 X123 hS hE hr => ?_
 replace hO := hO.m2 hE
 replace h1 := h1.m1 hE
 replace h2 := h2.m2 hE
 replace h3 := h3.m1 hE
 replace hP := hP.mv hr kr
 clear hE hr
 refine wseq ?_
 refine wblock ?_
 refine rPb T hS [(1, Pt 901 0), (2, Pt 902 0), (3, Pt 903 0), (4, Pt 904 0), (5, Pt 6 0), (11, B ((decide (p_.Oper < 0)) || (decide (p_.Oper ≥ (lN cap1)))))] (sp := [15]) fun a hS => ?_
 refine wcond hS (b := ((decide (p_.Oper < 0)) || (decide (p_.Oper ≥ (lN cap1))))) kr (fun hb => ?_) fun hb => ?_
 ·replace hm := hm.1 hb
  refine rP T hS ⟨[(6, I 0), (7, I 2)], [(901, (28, [Sl a1 cap1 c1])), (902, (59, [V (.map (some r2))])), (903, (24, (cO cap3 a3 c3))), (904, (3, [I cap4]))]⟩ fun a hS => ?_
  refine wret ?_
  exact finR T hS hO (fun c h => f0of_zero kr h) (fun c h => f0of_else (l := (zAa2 i1 i2 i3 i4 m2)) h) (f1of (zAa2 i1 i2 i3 i4 m2)) rfl (r := [.int .i64 0, .int .i64 2]) kr (fun X' hM hC => ⟨(0, 2, cap2, cap4), hm, rfl, ((hS.cell (id := 901) (t := 28) (cs := [Sl a1 cap1 c1]) kr).out (f := (f1of (zAa2 i1 i2 i3 i4 m2))) hC kr kr (hP.at 0 rfl)), ((hS.cell (id := 902) (t := 59) (cs := [V (.map (some r2))]) kr).out (f := (f1of (zAa2 i1 i2 i3 i4 m2))) hC kr kr (hP.at 1 rfl)), (h2.out (f := (f1of (zAa2 i1 i2 i3 i4 m2))) hM hC kr kr), ((hS.cell (id := 903) (t := 24) (cs := (cO cap3 a3 c3)) kr).out (f := (f1of (zAa2 i1 i2 i3 i4 m2))) hC kr kr (hP.at 2 rfl)), ((hS.cell (id := 904) (t := 3) (cs := [I cap4]) kr).out (f := (f1of (zAa2 i1 i2 i3 i4 m2))) hC kr kr (hP.at 3 rfl))⟩)
 replace hm := hm.2 hb
 refine regO ?_
 refine oPb T hS 3 [(1, Pt 901 0), (2, Pt 902 0), (3, Pt 903 0), (4, Pt 904 0), (5, Pt 6 0), (23, V (.map (some r2))), (25, I p_.Oper)] fun a hS => ?_
 refine op1 (mlook kI tI false (zv := .int .i64 0) (z := 0) p_.Oper hS kr kr kr kr Try.underlying59 Try.underlying3 kr rfl h2 ?_)
 intro v101 a hv hS
 replace hv : tI.R _ _ [v101] _ := hv
 cases hv
 refine ePb T hS [(1, Pt 901 0), (2, Pt 902 0), (3, Pt 903 0), (4, Pt 904 0), (5, Pt 6 0), (22, B (decide (((mget cap2 p_.Oper).getD 0) > 0)))] fun a hS => ?_
 refine wcond hS (b := decide (((mget cap2 p_.Oper).getD 0) > 0)) kr (fun hb => ?_) fun hb => ?_
 ·replace hm := hm.1 hb
  refine rP T hS ⟨[(6, I 0), (7, I 21)], [(901, (28, [Sl a1 cap1 c1])), (902, (59, [V (.map (some r2))])), (903, (24, (cO cap3 a3 c3))), (904, (3, [I cap4]))]⟩ fun a hS => ?_
  refine wret ?_
  exact finR T hS hO (fun c h => f0of_zero kr h) (fun c h => f0of_else (l := (zAa2 i1 i2 i3 i4 m2)) h) (f1of (zAa2 i1 i2 i3 i4 m2)) rfl (r := [.int .i64 0, .int .i64 21]) kr (fun X' hM hC => ⟨(0, 21, cap2, cap4), hm, rfl, ((hS.cell (id := 901) (t := 28) (cs := [Sl a1 cap1 c1]) kr).out (f := (f1of (zAa2 i1 i2 i3 i4 m2))) hC kr kr (hP.at 0 rfl)), ((hS.cell (id := 902) (t := 59) (cs := [V (.map (some r2))]) kr).out (f := (f1of (zAa2 i1 i2 i3 i4 m2))) hC kr kr (hP.at 1 rfl)), (h2.out (f := (f1of (zAa2 i1 i2 i3 i4 m2))) hM hC kr kr), ((hS.cell (id := 903) (t := 24) (cs := (cO cap3 a3 c3)) kr).out (f := (f1of (zAa2 i1 i2 i3 i4 m2))) hC kr kr (hP.at 2 rfl)), ((hS.cell (id := 904) (t := 3) (cs := [I cap4]) kr).out (f := (f1of (zAa2 i1 i2 i3 i4 m2))) hC kr kr (hP.at 3 rfl))⟩)
 replace hm := hm.2 hb
 refine wskip ?_
 refine regO ?_
 refine oPb T hS 3 [(1, Pt 901 0), (3, Pt 903 0), (4, Pt 904 0), (5, Pt 6 0), (28, V (.map (some r2))), (30, I p_.Oper)] fun a hS => ?_
 refine op1 (mlook kI tI false (zv := .int .i64 0) (z := 0) p_.Oper hS kr kr kr kr Try.underlying59 Try.underlying3 kr rfl h2 ?_)
 intro v102 a hv hS
 replace hv : tI.R _ _ [v102] _ := hv
 cases hv
 refine oPb T hS 1 [(1, Pt 901 0), (3, Pt 903 0), (4, Pt 904 0), (5, Pt 6 0), (28, V (.map (some r2))), (30, I p_.Oper), (32, I (wR (((mget cap2 p_.Oper).getD 0) + 1)))] fun a hS => ?_
 refine op1 (mset kI tI false (v := I (wR (((mget cap2 p_.Oper).getD 0) + 1))) (u := wR (((mget cap2 p_.Oper).getD 0) + 1)) p_.Oper hS kr kr kr kr Try.underlying59 Try.underlying3 kr h2 rfl ?_)
 intro a w103 hE h104 hS
 clear h2
 replace hO := hO.m2 hE
 replace h1 := h1.m1 hE
 replace h3 := h3.m1 hE
 refine doneK ?_
 refine regO ?_
 refine oPb T hS 3 [(3, Pt 903 0), (4, Pt 904 0), (5, Pt 6 0), (33, Sl a1 cap1 c1), (35, I p_.Oper)] fun a hS => ?_
 obtain ⟨hq, hm⟩ := hm
 refine op1 (index (e := 61) (k := .i64) T hS kr kr kr kr h1 kr kr hq.1 hq.2 ?_)
 intro A105 a h106 hS
 refine op1 (loadA T hS kr kr kr h106 kr kr ?_)
 intro v107 a hv hS
 subst hv
 refine eM T hS ⟨[(3, Pt 903 0), (4, Pt 904 0), (5, Pt 6 0), (8, Pt 9 0)], [(6, (109, (cK p_))), (9, (61, (cP (gi cap1 p_.Oper)))), (901, (28, [Sl a1 cap1 c1])), (902, (59, [V (.map (some r2))])), (903, (24, (cO cap3 a3 c3))), (904, (3, [I cap4]))]⟩ fun Z a w120 X121 hS hE hr => ?_
 replace hO := hO.m2 hE
 replace h1 := h1.m1 hE
 replace h3 := h3.m1 hE
 replace h104 := h104.m2 hE
 replace hP := hP.mv hr kr
 clear hE hr
 refine regO ?_
 refine oPb T hS 6 [(4, Pt 904 0), (5, Pt 6 0), (8, Pt 9 0), (39, V (.agg #[.int .i64 cap3.States, .int .i64 cap3.Kinds, .int .i64 cap3.Init, .slice a3 cap3.Rows.length c3])), (40, I cap4), (42, I ((gi cap1 p_.Oper).Kind)), (44, I p_.Result)] fun a hS => ?_
 refine op1 (call hS kr kr hb92 kr (fun _ _ => rfl) (k92 _ _ cap3 cap4 ((gi cap1 p_.Oper).Kind) p_.Result a3 c3 h3) ?_)
 intro v108 a w109 X110 hE hp hS
 replace hO := hO.m2 hE
 replace h1 := h1.m1 hE
 replace h3 := h3.m1 hE
 replace h104 := h104.m2 hE
 obtain ⟨r111, hr⟩ : ∃ r, run_Step cap3 cap4 ((gi cap1 p_.Oper).Kind) p_.Result = r := ⟨_, rfl⟩
 replace hm := hm r111 hr
 rw [hr] at hp
 clear hr
 subst hp
 refine ePb T hS [(4, Pt 904 0), (5, Pt 6 0), (8, Pt 9 0), (9, I r111.1), (10, I r111.2)] fun a hS => ?_
 refine wcut (fun a w => ∃ (Z : Nat -> Nat) (X : Nat -> Nat) (y112 : Int), VC91_J1 p_ cap2 cap4 Q r111 y112 /\ St Try.f91.ntmps ⟨[(4, Pt 904 0), (9, I r111.1), (10, I y112)], [(901, (28, [Sl a1 cap1 c1])), (902, (59, [V (.map (some r2))])), (903, (24, (cO cap3 a3 c3))), (904, (3, [I cap4]))]⟩ Z a w X /\ OldR (f0of (zAa2 i1 i2 i3 i4 m2)) w0 X0 w X /\ Pin [(901, b1), (902, b2), (903, b3), (904, b4)] Z /\ RS tApi_Oper w X a1 cap1 c1 /\ OM kI tI false w X 2002 r2 (mput cap2 p_.Oper (wR (((mget cap2 p_.Oper).getD 0) + 1))) /\ RS tApi_Row w X a3 cap3.Rows c3) ?_ ?_
 ·refine rP T hS ⟨[(4, Pt 904 0), (9, I r111.1), (10, I r111.2), (61, B (((r111.2 == 0) && (((gi cap1 p_.Oper).End) != (-1))) && (((gi cap1 p_.Oper).Result) != p_.Result)))], [(901, (28, [Sl a1 cap1 c1])), (902, (59, [V (.map (some r2))])), (903, (24, (cO cap3 a3 c3))), (904, (3, [I cap4]))]⟩ (sp := [50, 55]) fun a hS => ?_
  refine wcond hS (b := (((r111.2 == 0) && (((gi cap1 p_.Oper).End) != (-1))) && (((gi cap1 p_.Oper).Result) != p_.Result))) kr (fun hb => ?_) fun hb => ?_
  ·replace hm := hm.1 hb
   refine region (ePb T hS [(4, Pt 904 0), (9, I r111.1), (10, I 40)] fun a hS => ?_)
   exact ⟨Z, _, 40, hm, hS.sl _, hO, hP, h1, h104, h3⟩
  replace hm := hm.2 hb
  refine wskip ?_
  exact ⟨Z, _, r111.2, hm, hS.sl _, hO, hP, h1, h104, h3⟩
 rintro a w119 ⟨Z, X118, y112, hm, hS, hO, hP, h113, h114, h115⟩
 unfold VC91_J1 at hm
 refine wseq ?_
 refine rPb T hS [(4, Pt 904 0), (9, I r111.1), (10, I y112), (63, B (y112 != 0))] fun a hS => ?_
 refine wcond hS (b := (y112 != 0)) kr (fun hb => ?_) fun hb => ?_
 ·replace hm := hm.1 hb
  refine rPb T hS [(6, I 0), (7, I y112)] fun a hS => ?_
  refine wret ?_
  exact finR T hS hO (fun c h => f0of_zero kr h) (fun c h => f0of_else (l := (zAa2 i1 i2 i3 i4 m2)) h) (f1of (zAa2 i1 i2 i3 i4 m2)) rfl (r := [.int .i64 0, .int .i64 y112]) kr (fun X' hM hC => ⟨(0, y112, mput cap2 p_.Oper (wR (((mget cap2 p_.Oper).getD 0) + 1)), cap4), hm, rfl, ((hS.cell (id := 901) (t := 28) (cs := [Sl a1 cap1 c1]) kr).out (f := (f1of (zAa2 i1 i2 i3 i4 m2))) hC kr kr (hP.at 0 rfl)), ((hS.cell (id := 902) (t := 59) (cs := [V (.map (some r2))]) kr).out (f := (f1of (zAa2 i1 i2 i3 i4 m2))) hC kr kr (hP.at 1 rfl)), (h114.out (f := (f1of (zAa2 i1 i2 i3 i4 m2))) hM hC kr kr), ((hS.cell (id := 903) (t := 24) (cs := (cO cap3 a3 c3)) kr).out (f := (f1of (zAa2 i1 i2 i3 i4 m2))) hC kr kr (hP.at 2 rfl)), ((hS.cell (id := 904) (t := 3) (cs := [I cap4]) kr).out (f := (f1of (zAa2 i1 i2 i3 i4 m2))) hC kr kr (hP.at 3 rfl))⟩)
 replace hm := hm.2 hb
 refine wskip ?_
 refine rM T hS ⟨[(9, I r111.1)], [(901, (28, [Sl a1 cap1 c1])), (902, (59, [V (.map (some r2))])), (903, (24, (cO cap3 a3 c3))), (904, (3, [I r111.1]))]⟩ fun Z a w116 X117 hS hE hr => ?_
 replace hO := hO.m2 hE
 replace h113 := h113.m1 hE
 replace h114 := h114.m2 hE
 replace h115 := h115.m1 hE
 replace hP := hP.mv hr kr
 clear hE hr
 refine rPb T hS [(6, I r111.1), (7, I 0)] fun a hS => ?_
 refine wret ?_
 exact finR T hS hO (fun c h => f0of_zero kr h) (fun c h => f0of_else (l := (zAa2 i1 i2 i3 i4 m2)) h) (f1of (zAa2 i1 i2 i3 i4 m2)) rfl (r := [.int .i64 r111.1, .int .i64 0]) kr (fun X' hM hC => ⟨(r111.1, 0, mput cap2 p_.Oper (wR (((mget cap2 p_.Oper).getD 0) + 1)), r111.1), hm, rfl, ((hS.cell (id := 901) (t := 28) (cs := [Sl a1 cap1 c1]) kr).out (f := (f1of (zAa2 i1 i2 i3 i4 m2))) hC kr kr (hP.at 0 rfl)), ((hS.cell (id := 902) (t := 59) (cs := [V (.map (some r2))]) kr).out (f := (f1of (zAa2 i1 i2 i3 i4 m2))) hC kr kr (hP.at 1 rfl)), (h114.out (f := (f1of (zAa2 i1 i2 i3 i4 m2))) hM hC kr kr), ((hS.cell (id := 903) (t := 24) (cs := (cO cap3 a3 c3)) kr).out (f := (f1of (zAa2 i1 i2 i3 i4 m2))) hC kr kr (hP.at 2 rfl)), ((hS.cell (id := 904) (t := 3) (cs := [I r111.1]) kr).out (f := (f1of (zAa2 i1 i2 i3 i4 m2))) hC kr kr (hP.at 3 rfl))⟩)
theorem C91 (k92 : S92) (v : ∀ (p_ : Api_Pick) (cap1 : List Api_Oper) (cap2 : List (Int × Int)) (cap3 : Api_Object) (cap4 : Int), VC91 p_ cap1 cap2 cap3 cap4 (fun r => r = run_runner_1 p_ cap1 cap2 cap3 cap4)) : S91 := by
 intro w X p_ cap1 cap2 cap3 cap4 a1 c1 r2 m2 a3 c3  b1 i1 b2 i2 b3 i3 b4 i4 h1 h2 h3 hc1 hc2 hc3 hc4 hA
 refine (W91 k92 w X p_ cap1 cap2 cap3 cap4 a1 c1 r2 m2 a3 c3  b1 i1 b2 i2 b3 i3 b4 i4 _ (v p_ cap1 cap2 cap3 cap4) h1 h2 h3 hc1 hc2 hc3 hc4 hA).mono ?_
 rintro _ _ _ _ ⟨r, rfl, h⟩
 exact h
theorem W86 (k88 : S88) (k89 : S89) (k91 : S91) (w0) (X0) (o_ : Api_Object) (l_ : List Api_Oper) (state : Int) (picks : List Api_Pick) (a1) (c1) (a2) (c2) (a3) (c3) (Q : Int × Int × Int -> Prop) (hm : VC86 o_ l_ state picks Q) (h1 : RS tApi_Row w0 X0 a1 o_.Rows c1) (h2 : RS tApi_Oper w0 X0 a2 l_ c2) (h3 : RS tApi_Pick w0 X0 a3 picks c3) :
  Ret Try.prog 86 #[.agg #[.int .i64 o_.States, .int .i64 o_.Kinds, .int .i64 o_.Init, .slice a1 o_.Rows.length c1], .slice a2 l_.length c2, .int .i64 state, .slice a3 picks.length c3] xnone w0 X0 (fun w X' v => ∃ r, Q r /\ v = .tuple #[.int .i64 r.1, .int .i64 r.2.1, .int .i64 r.2.2]) := by
 unfold VC86 at hm
 replace hm := hm (h1.sm kr)
 replace hm := hm (h2.sm kr)
 replace hm := hm (h3.sm kr)
 refine enter Try.func86 rfl (vals := [.agg #[.int .i64 o_.States, .int .i64 o_.Kinds, .int .i64 o_.Init, .slice a1 o_.Rows.length c1], .slice a2 l_.length c2, .int .i64 state, .slice a3 picks.length c3]) kr ?_
 intro Z a hS hO hM
 replace h1 := h1.m0 hM
 replace h2 := h2.m0 hM
 replace h3 := h3.m0 hM
 refine rM T hS ⟨[(1, Sl a2 l_ c2), (2, I state), (3, Sl a3 picks c3), (4, Pt 5 0)], [(5, (24, (cO o_ a1 c1)))]⟩ fun Z a w154 X155 hS hE hr => ?_
 replace hO := hO.m2 hE
 replace h1 := h1.m1 hE
 replace h2 := h2.m1 hE
 replace h3 := h3.m1 hE
 clear hE hr
 refine wseq ?_
 refine regO ?_
 refine oPb T hS 2 [(1, Sl a2 l_ c2), (2, I state), (3, Sl a3 picks c3), (4, Pt 5 0), (17, V (.agg #[.int .i64 o_.States, .int .i64 o_.Kinds, .int .i64 o_.Init, .slice a1 o_.Rows.length c1])), (18, I state)] fun a hS => ?_
 obtain ⟨hq, hm⟩ := hm
 refine op1 (call hS kr kr hb88 kr (fun _ _ => rfl) (k88 _ _ o_ state a1 c1 hq h1) ?_)
 intro v101 a w102 X103 hE hp hS
 replace hO := hO.m2 hE
 replace h1 := h1.m1 hE
 replace h2 := h2.m1 hE
 replace h3 := h3.m1 hE
 obtain ⟨r104, hr⟩ : ∃ r, run_may o_ state = r := ⟨_, rfl⟩
 replace hm := hm r104 hr
 rw [hr] at hp
 clear hr
 subst hp
 refine ePb T hS [(1, Sl a2 l_ c2), (2, I state), (3, Sl a3 picks c3), (4, Pt 5 0), (11, I r104)] fun a hS => ?_
 refine rPb T hS [(1, Sl a2 l_ c2), (2, I state), (3, Sl a3 picks c3), (4, Pt 5 0), (11, I r104), (21, B (r104 != 0))] fun a hS => ?_
 refine wcond hS (b := (r104 != 0)) kr (fun hb => ?_) fun hb => ?_
 ·replace hm := hm.1 hb
  refine rP T hS ⟨[(8, I 0), (9, I (-1)), (10, I r104)], []⟩ fun a hS => ?_
  refine wret ?_
  exact fin T hS hO (fun c => c) rfl (r := [.int .i64 0, .int .i64 (-1), .int .i64 r104]) kr (fun X' hM hC => ⟨(0, (-1), r104), hm, rfl⟩)
 replace hm := hm.2 hb
 refine wskip ?_
 refine regO ?_
 refine oP T hS 3 ⟨[(2, I state), (3, Sl a3 picks c3), (23, V (.agg #[.int .i64 o_.States, .int .i64 o_.Kinds, .int .i64 o_.Init, .slice a1 o_.Rows.length c1])), (24, Sl a2 l_ c2), (25, I state)], []⟩ fun a hS => ?_
 refine op1 (call hS kr kr hb89 kr (fun _ _ => rfl) (k89 _ _ o_ l_ state a1 c1 a2 c2 2113 701 702 703 704 h1 h2) ?_)
 intro v105 a w106 X107 hE hp hS
 replace hO := hO.m2 hE
 replace h1 := h1.m1 hE
 replace h2 := h2.m1 hE
 replace h3 := h3.m1 hE
 obtain ⟨a109, c110, r113, a114, c115, b117, b118, b119, b120, hp, h111, h116, hc121, hc122, h112, hc123, hc124⟩ := hp
 obtain ⟨r108, hr⟩ : ∃ r, run_runner o_ l_ state = r := ⟨_, rfl⟩
 replace hm := hm r108 hr
 rw [hr] at h111 h116 hc121 hc123 hc124 h112
 clear hr
 subst hp
 replace hm := hm (h111.sm kr)
 replace hm := hm (h116.sm kr)
 replace hS := hS.newbox (id := 701) (t := 28) (cs := [Sl a109 r108.1 c110]) kr kr hc121 rfl
 replace hS := hS.newbox (id := 702) (t := 59) (cs := [V (.map (some r113))]) kr kr hc122 rfl
 replace hS := hS.newbox (id := 703) (t := 24) (cs := (cO r108.2.2.1 a114 c115)) kr kr hc123 rfl
 replace hS := hS.newbox (id := 704) (t := 3) (cs := [I r108.2.2.2]) kr kr hc124 rfl
 replace hS := hS.convS (t := 26) (x := V (.func (.func 91) #[] #[.pointer (some ⟨b117, 0, none⟩), .pointer (some ⟨b118, 0, none⟩), .pointer (some ⟨b119, 0, none⟩), .pointer (some ⟨b120, 0, none⟩)])) (y := .f (.func 91) [] [.p 701 0, .p 702 0, .p 703 0, .p 704 0]) kr rfl
 generalize (upd (upd (upd (upd Z 701 b117) 702 b118) 703 b119) 704 b120) = Z at hS
 clear hc121 hc122 hc123 hc124
 refine ePb T hS [(2, I state), (3, Sl a3 picks c3), (12, .f (.func 91) [] [.p 701 0, .p 702 0, .p 703 0, .p 704 0])] fun a hS => ?_
 refine rPb T hS [(3, Sl a3 picks c3), (8, I state), (12, .f (.func 91) [] [.p 701 0, .p 702 0, .p 703 0, .p 704 0])] fun a hS => ?_
 refine wcut (fun a w => ∃ (Z : Nat -> Nat) (X : Nat -> Nat) (y126 : Int), VC86_J1 picks Q y126 /\ St Try.f86.ntmps ⟨[(3, Sl a3 picks c3), (8, I y126)], []⟩ Z a w X /\ Old w0 X0 w X /\ RS tApi_Pick w X a3 picks c3) ?_ ?_
 ·refine rPb T hS [(3, Sl a3 picks c3), (8, I state), (12, .f (.func 91) [] [.p 701 0, .p 702 0, .p 703 0, .p 704 0]), (28, Sl a3 picks c3), (29, I (lN picks)), (30, I 0)] fun a hS => ?_
  refine wblock ?_
  obtain ⟨I1, μ1, hm0, hm⟩ := hm
  refine wloop (σ := Int × Int × (List (Int × Int)) × Int) (fun s a w => ∃ Z X, I1 s.1 s.2.1 s.2.2.1 s.2.2.2 /\ St Try.f86.ntmps ⟨[(3, Sl a3 picks c3), (8, I s.1), (12, .f (.func 91) [] [.p 701 0, .p 702 0, .p 703 0, .p 704 0]), (28, Sl a3 picks c3), (29, I (lN picks)), (30, I s.2.1)], [(701, (28, [Sl a109 r108.1 c110])), (702, (59, [V (.map (some r113))])), (703, (24, (cO r108.2.2.1 a114 c115))), (704, (3, [I s.2.2.2]))]⟩ Z a w X /\ Old w0 X0 w X /\ RS tApi_Pick w X a3 picks c3 /\ RS tApi_Pick w X a3 picks c3 /\ RS tApi_Oper w X a109 r108.1 c110 /\ OM kI tI false w X 2113 r113 s.2.2.1 /\ RS tApi_Row w X a114 r108.2.2.1.Rows c115) (fun s => μ1 s.1 s.2.1 s.2.2.1 s.2.2.2) (⟨state, 0, r108.2.1, r108.2.2.2⟩) ?_ ?_
  ·exact ⟨Z, _, hm0, hS.sl _, hO, h3, h3, h111, h112, h116⟩
  rintro ⟨y128, y130, y132, y135⟩ a w151 ⟨Z, X150, hI, hS, hO, h127, h129, h131, h133, h134⟩
  replace hm := hm y128 y130 y132 y135 hI
  clear hI hm0
  refine rPb T hS [(3, Sl a3 picks c3), (8, I y128), (12, .f (.func 91) [] [.p 701 0, .p 702 0, .p 703 0, .p 704 0]), (28, Sl a3 picks c3), (29, I (lN picks)), (30, I y130), (31, B (decide (y130 < (lN picks))))] fun a hS => ?_
  refine wseq ?_
  refine wcond hS (b := decide (y130 < (lN picks))) kr (fun hb => ?_) fun hb => ?_
  ·replace hm := hm.1 hb
   refine wskip (wseq ?_)
   refine wblock ?_
   refine regO ?_
   refine oPb T hS 1 [(3, Sl a3 picks c3), (12, .f (.func 91) [] [.p 701 0, .p 702 0, .p 703 0, .p 704 0]), (28, Sl a3 picks c3), (29, I (lN picks)), (30, I y130), (32, I y130)] fun a hS => ?_
   obtain ⟨hq, hm⟩ := hm
   refine op1 (index (e := 109) (k := .i64) T hS kr kr kr kr h129 kr kr hq.1 hq.2 ?_)
   intro A136 a h137 hS
   refine op1 (loadA T hS kr kr kr h137 kr kr ?_)
   intro v138 a hv hS
   subst hv
   refine eM T hS ⟨[(3, Sl a3 picks c3), (12, .f (.func 91) [] [.p 701 0, .p 702 0, .p 703 0, .p 704 0]), (13, I y130), (14, Pt 15 0), (28, Sl a3 picks c3), (29, I (lN picks)), (30, I y130)], [(15, (109, (cK (gi picks y130)))), (701, (28, [Sl a109 r108.1 c110])), (702, (59, [V (.map (some r113))])), (703, (24, (cO r108.2.2.1 a114 c115))), (704, (3, [I y135]))]⟩ fun Z a w148 X149 hS hE hr => ?_
   replace hO := hO.m2 hE
   replace h127 := h127.m1 hE
   replace h129 := h129.m1 hE
   replace h131 := h131.m1 hE
   replace h133 := h133.m2 hE
   replace h134 := h134.m1 hE
   clear hE hr
   refine regO ?_
   refine oP T hS 2 ⟨[(3, Sl a3 picks c3), (12, .f (.func 91) [] [.p 701 0, .p 702 0, .p 703 0, .p 704 0]), (13, I y130), (28, Sl a3 picks c3), (29, I (lN picks)), (30, I y130), (36, .f (.func 91) [] [.p 701 0, .p 702 0, .p 703 0, .p 704 0]), (37, V (.agg #[.int .i64 ((gi picks y130).Oper), .int .i64 ((gi picks y130).Result)]))], [(701, (28, [Sl a109 r108.1 c110])), (702, (59, [V (.map (some r113))])), (703, (24, (cO r108.2.2.1 a114 c115))), (704, (3, [I y135]))]⟩ fun a hS => ?_
   refine op1 (callCR (fi := []) (cp := [.p 701 0, .p 702 0, .p 703 0, .p 704 0]) hS kr kr hb91 kr kr (k91 _ _ (gi picks y130) r108.1 y132 r108.2.2.1 y135 a109 c110 r113 2113 a114 c115 (Z 701) 701 (Z 702) 702 (Z 703) 703 (Z 704) 704 h131 h133 h134 (hS.cell (id := 701) (t := 28) (cs := [Sl a109 r108.1 c110]) kr) (hS.cell (id := 702) (t := 59) (cs := [V (.map (some r113))]) kr) (hS.cell (id := 703) (t := 24) (cs := (cO r108.2.2.1 a114 c115)) kr) (hS.cell (id := 704) (t := 3) (cs := [I y135]) kr) ⟨by decide, by decide⟩) ?_)
   intro v139 a w140 X141 hE hp hS
   clear h133
   replace hO := hO.m2 hE
   replace h127 := h127.m1 hE
   replace h129 := h129.m1 hE
   replace h131 := h131.m1 hE
   replace h134 := h134.m1 hE
   obtain ⟨hp, hc144, hc145, h143, hc146, hc147⟩ := hp
   obtain ⟨r142, hr⟩ : ∃ r, run_runner_1 (gi picks y130) r108.1 y132 r108.2.2.1 y135 = r := ⟨_, rfl⟩
   replace hm := hm r142 hr
   rw [hr] at hp hc147 h143
   clear hr
   subst hp
   replace hS := hS.addbox (id := 701) (t := 28) (cs := [Sl a109 r108.1 c110]) kr hc144
   replace hS := hS.addbox (id := 702) (t := 59) (cs := [V (.map (some r113))]) kr hc145
   replace hS := hS.addbox (id := 703) (t := 24) (cs := (cO r108.2.2.1 a114 c115)) kr hc146
   replace hS := hS.addbox (id := 704) (t := 3) (cs := [I r142.2.2.2]) kr hc147
   clear hc144 hc145 hc146 hc147
   refine ePb T hS [(3, Sl a3 picks c3), (12, .f (.func 91) [] [.p 701 0, .p 702 0, .p 703 0, .p 704 0]), (13, I y130), (15, I r142.1), (16, I r142.2.1), (28, Sl a3 picks c3), (29, I (lN picks)), (30, I y130)] fun a hS => ?_
   refine wseq ?_
   refine rPb T hS [(3, Sl a3 picks c3), (12, .f (.func 91) [] [.p 701 0, .p 702 0, .p 703 0, .p 704 0]), (13, I y130), (15, I r142.1), (16, I r142.2.1), (28, Sl a3 picks c3), (29, I (lN picks)), (30, I y130), (42, B (r142.2.1 != 0))] fun a hS => ?_
   refine wcond hS (b := (r142.2.1 != 0)) kr (fun hb => ?_) fun hb => ?_
   ·replace hm := hm.1 hb
    refine rP T hS ⟨[(8, I 0), (9, I y130), (10, I r142.2.1)], []⟩ fun a hS => ?_
    refine wret ?_
    exact fin T hS hO (fun c => c) rfl (r := [.int .i64 0, .int .i64 y130, .int .i64 r142.2.1]) kr (fun X' hM hC => ⟨(0, y130, r142.2.1), hm, rfl⟩)
   replace hm := hm.2 hb
   refine wskip ?_
   refine region (ePb T hS [(3, Sl a3 picks c3), (8, I r142.1), (12, .f (.func 91) [] [.p 701 0, .p 702 0, .p 703 0, .p 704 0]), (28, Sl a3 picks c3), (29, I (lN picks)), (30, I y130)] fun a hS => ?_)
   refine region (ePb T hS [(3, Sl a3 picks c3), (8, I r142.1), (12, .f (.func 91) [] [.p 701 0, .p 702 0, .p 703 0, .p 704 0]), (28, Sl a3 picks c3), (29, I (lN picks)), (30, I (wR (y130 + 1)))] fun a hS => ?_)
   exact ⟨⟨r142.1, wR (y130 + 1), r142.2.2.1, r142.2.2.2⟩, ⟨Z, _, hm.1, hS.sl _, hO, h127, h129, h131, h143, h134⟩, hm.2⟩
  replace hm := hm.2 hb
  refine wexit (by rfl) ?_
  exact ⟨Z, _, y128, hm, hS.sl _, hO, h127⟩
 rintro a w153 ⟨Z, X152, y126, hm, hS, hO, h125⟩
 unfold VC86_J1 at hm
 refine rPb T hS [(8, I y126), (9, I (lN picks)), (10, I 0)] fun a hS => ?_
 refine wret ?_
 exact fin T hS hO (fun c => c) rfl (r := [.int .i64 y126, .int .i64 (lN picks), .int .i64 0]) kr (fun X' hM hC => ⟨(y126, (lN picks), 0), hm, rfl⟩)
theorem C86 (k88 : S88) (k89 : S89) (k91 : S91) (v : ∀ (o_ : Api_Object) (l_ : List Api_Oper) (state : Int) (picks : List Api_Pick), preO3 o_ l_ state picks -> VC86 o_ l_ state picks (fun r => r = run_From o_ l_ state picks)) : S86 := by
 intro w X o_ l_ state picks a1 c1 a2 c2 a3 c3   hp h1 h2 h3
 refine (W86 k88 k89 k91 w X o_ l_ state picks a1 c1 a2 c2 a3 c3   _ (v o_ l_ state picks hp) h1 h2 h3).mono ?_
 rintro _ _ _ _ ⟨r, rfl, h⟩
 exact h
theorem W80 (k86 : S86) (w0) (X0) (o_ : Api_Object) (l_ : List Api_Oper) (picks : List Api_Pick) (a1) (c1) (a2) (c2) (a3) (c3) (Q : Int × Int × Int -> Prop) (hm : VC80 o_ l_ picks Q) (h1 : RS tApi_Row w0 X0 a1 o_.Rows c1) (h2 : RS tApi_Oper w0 X0 a2 l_ c2) (h3 : RS tApi_Pick w0 X0 a3 picks c3) :
  Ret Try.prog 80 #[.agg #[.int .i64 o_.States, .int .i64 o_.Kinds, .int .i64 o_.Init, .slice a1 o_.Rows.length c1], .slice a2 l_.length c2, .slice a3 picks.length c3] xnone w0 X0 (fun w X' v => ∃ r, Q r /\ v = .tuple #[.int .i64 r.1, .int .i64 r.2.1, .int .i64 r.2.2]) := by
 unfold VC80 at hm
 replace hm := hm (h1.sm kr)
 replace hm := hm (h2.sm kr)
 replace hm := hm (h3.sm kr)
 refine enter Try.func80 rfl (vals := [.agg #[.int .i64 o_.States, .int .i64 o_.Kinds, .int .i64 o_.Init, .slice a1 o_.Rows.length c1], .slice a2 l_.length c2, .slice a3 picks.length c3]) kr ?_
 intro Z a hS hO hM
 replace h1 := h1.m0 hM
 replace h2 := h2.m0 hM
 replace h3 := h3.m0 hM
 refine rM T hS ⟨[(1, Sl a2 l_ c2), (2, Sl a3 picks c3), (3, Pt 4 0)], [(4, (24, (cO o_ a1 c1)))]⟩ fun Z a w105 X106 hS hE hr => ?_
 replace hO := hO.m2 hE
 replace h1 := h1.m1 hE
 replace h2 := h2.m1 hE
 replace h3 := h3.m1 hE
 clear hE hr
 refine regO ?_
 refine oP T hS 5 ⟨[(9, V (.agg #[.int .i64 o_.States, .int .i64 o_.Kinds, .int .i64 o_.Init, .slice a1 o_.Rows.length c1])), (10, Sl a2 l_ c2), (12, I o_.Init), (13, Sl a3 picks c3)], []⟩ fun a hS => ?_
 obtain ⟨hq, hm⟩ := hm
 refine op1 (call hS kr kr hb86 kr (fun _ _ => rfl) (k86 _ _ o_ l_ o_.Init picks a1 c1 a2 c2 a3 c3 hq h1 h2 h3) ?_)
 intro v101 a w102 X103 hE hp hS
 replace hO := hO.m2 hE
 replace h1 := h1.m1 hE
 replace h2 := h2.m1 hE
 replace h3 := h3.m1 hE
 obtain ⟨r104, hr⟩ : ∃ r, run_From o_ l_ o_.Init picks = r := ⟨_, rfl⟩
 replace hm := hm r104 hr
 rw [hr] at hp
 clear hr
 subst hp
 refine ePb T hS [(6, I r104.1), (7, I r104.2.1), (8, I r104.2.2)] fun a hS => ?_
 refine wret ?_
 exact fin T hS hO (fun c => c) rfl (r := [.int .i64 r104.1, .int .i64 r104.2.1, .int .i64 r104.2.2]) kr (fun X' hM hC => ⟨(r104.1, r104.2.1, r104.2.2), hm, rfl⟩)
theorem C80 (k86 : S86) (v : ∀ (o_ : Api_Object) (l_ : List Api_Oper) (picks : List Api_Pick), preO2 o_ l_ picks -> VC80 o_ l_ picks (fun r => r = run_Picks o_ l_ picks)) : S80 := by
 intro w X o_ l_ picks a1 c1 a2 c2 a3 c3   hp h1 h2 h3
 refine (W80 k86 w X o_ l_ picks a1 c1 a2 c2 a3 c3   _ (v o_ l_ picks hp) h1 h2 h3).mono ?_
 rintro _ _ _ _ ⟨r, rfl, h⟩
 exact h
theorem W90 (w0) (X0) (picks : List Api_Pick) (a1) (c1) (col1) (col2) (Q : (List (Int × Int)) -> Prop) (hm : VC90 picks Q) (h1 : RS tApi_Pick w0 X0 a1 picks c1) :
  Ret Try.prog 90 #[.slice a1 picks.length c1] xnone w0 X0 (fun w X' v => ∃ r, Q r /\ ∃ rr1 rb1, v = .func (.func 93) #[] #[.pointer (some ⟨rb1, 0, none⟩)] /\ Cell w X' rb1 col2 59 [.map (some rr1)] /\ OM kI tI false w X' col1 rr1 r) := by
 unfold VC90 at hm
 replace hm := hm (h1.sm kr)
 refine enter Try.func90 rfl (vals := [.slice a1 picks.length c1]) kr ?_
 intro Z a hS hO hM
 replace h1 := h1.m0 hM
 refine rPb T hS [(0, Sl a1 picks c1)] fun a hS => ?_
 refine regO ?_
 refine op1 (mkmap kI tI false 1007 hS kr kr ?_)
 intro r101 a w102 X103 hE h104 hS
 replace hO := hO.m2 hE
 replace h1 := h1.m1 hE
 refine eM T hS ⟨[(0, Sl a1 picks c1), (3, Pt 4 0)], [(4, (59, [V (.map (some r101))]))]⟩ fun Z a w123 X124 hS hE hr => ?_
 replace hO := hO.m2 hE
 replace h1 := h1.m1 hE
 replace h104 := h104.m2 hE
 clear hE hr
 refine wcut (fun a w => ∃ (Z : Nat -> Nat) (X : Nat -> Nat) (y105 : List (Int × Int)), VC90_J1 Q y105 /\ St Try.f90.ntmps ⟨[(3, Pt 4 0)], [(4, (59, [V (.map (some r101))]))]⟩ Z a w X /\ Old w0 X0 w X /\ OM kI tI false w X 1007 r101 y105) ?_ ?_
 ·refine rPb T hS [(3, Pt 4 0), (7, Sl a1 picks c1), (8, I (lN picks)), (9, I 0)] fun a hS => ?_
  refine wblock ?_
  obtain ⟨I1, μ1, hm0, hm⟩ := hm
  refine wloop (σ := Int × (List (Int × Int))) (fun s a w => ∃ Z X, I1 s.1 s.2 /\ St Try.f90.ntmps ⟨[(3, Pt 4 0), (7, Sl a1 picks c1), (8, I (lN picks)), (9, I s.1)], [(4, (59, [V (.map (some r101))]))]⟩ Z a w X /\ Old w0 X0 w X /\ RS tApi_Pick w X a1 picks c1 /\ OM kI tI false w X 1007 r101 s.2) (fun s => μ1 s.1 s.2) (⟨0, ([] : List (Int × Int))⟩) ?_ ?_
  ·exact ⟨Z, _, hm0, hS.sl _, hO, h1, h104⟩
  rintro ⟨y108, y109⟩ a w120 ⟨Z, X119, hI, hS, hO, h107, h110⟩
  replace hm := hm y108 y109 hI
  clear hI hm0
  refine rPb T hS [(3, Pt 4 0), (7, Sl a1 picks c1), (8, I (lN picks)), (9, I y108), (10, B (decide (y108 < (lN picks))))] fun a hS => ?_
  refine wseq ?_
  refine wcond hS (b := decide (y108 < (lN picks))) kr (fun hb => ?_) fun hb => ?_
  ·replace hm := hm.1 hb
   refine wskip (wseq ?_)
   refine wblock ?_
   refine regO ?_
   obtain ⟨hq, hm⟩ := hm
   refine op1 (index (e := 109) (k := .i64) T hS kr kr kr kr h107 kr kr hq.1 hq.2 ?_)
   intro A111 a h112 hS
   refine op1 (loadA T hS kr kr kr h112 kr kr ?_)
   intro v113 a hv hS
   subst hv
   refine eM T hS ⟨[(3, Pt 4 0), (5, Pt 6 0), (7, Sl a1 picks c1), (8, I (lN picks)), (9, I y108)], [(4, (59, [V (.map (some r101))])), (6, (109, (cK (gi picks y108))))]⟩ fun Z a w117 X118 hS hE hr => ?_
   replace hO := hO.m2 hE
   replace h107 := h107.m1 hE
   replace h110 := h110.m2 hE
   clear hE hr
   refine region ?_
   refine oP T hS 3 ⟨[(3, Pt 4 0), (7, Sl a1 picks c1), (8, I (lN picks)), (9, I y108), (13, V (.map (some r101))), (15, I ((gi picks y108).Oper))], [(4, (59, [V (.map (some r101))]))]⟩ fun a hS => ?_
   refine op1 (mlook kI tI false (zv := .int .i64 0) (z := 0) ((gi picks y108).Oper) hS kr kr kr kr Try.underlying59 Try.underlying3 kr rfl h110 ?_)
   intro v114 a hv hS
   replace hv : tI.R _ _ [v114] _ := hv
   cases hv
   refine oPb T hS 1 [(3, Pt 4 0), (7, Sl a1 picks c1), (8, I (lN picks)), (9, I y108), (13, V (.map (some r101))), (15, I ((gi picks y108).Oper)), (17, I (wR (((mget y109 ((gi picks y108).Oper)).getD 0) + 1)))] fun a hS => ?_
   refine op1 (mset kI tI false (v := I (wR (((mget y109 ((gi picks y108).Oper)).getD 0) + 1))) (u := wR (((mget y109 ((gi picks y108).Oper)).getD 0) + 1)) ((gi picks y108).Oper) hS kr kr kr kr Try.underlying59 Try.underlying3 kr h110 rfl ?_)
   intro a w115 hE h116 hS
   clear h110
   replace hO := hO.m2 hE
   replace h107 := h107.m1 hE
   refine doneK ?_
   refine region (ePb T hS [(3, Pt 4 0), (7, Sl a1 picks c1), (8, I (lN picks)), (9, I (wR (y108 + 1)))] fun a hS => ?_)
   exact ⟨⟨wR (y108 + 1), mput y109 ((gi picks y108).Oper) (wR (((mget y109 ((gi picks y108).Oper)).getD 0) + 1))⟩, ⟨Z, _, hm.1, hS.sl _, hO, h107, h116⟩, hm.2⟩
  replace hm := hm.2 hb
  refine wexit (by rfl) ?_
  exact ⟨Z, _, y109, hm, hS.sl _, hO, h110⟩
 rintro a w122 ⟨Z, X121, y105, hm, hS, hO, h106⟩
 unfold VC90_J1 at hm
 refine rPb T hS [(2, .f (.func 93) [] [.p 4 0])] fun a hS => ?_
 refine wret ?_
 exact fin T hS hO (zAa1 col2 col1) rfl (r := [.func (.func 93) #[] #[.pointer (some ⟨Z 4, 0, none⟩)]]) kr (fun X' hM hC => ⟨y105, hm, r101, (Z 4), rfl, ((hS.cell (id := 4) (t := 59) (cs := [V (.map (some r101))]) kr).out (f := (zAa1 col2 col1)) hC kr kr rfl), (h106.out (f := (zAa1 col2 col1)) hM hC kr kr)⟩)
theorem C90 (v : ∀ (picks : List Api_Pick), VC90 picks (fun r => r = witness_absent picks)) : S90 := by
 intro w X picks a1 c1 col1 col2  h1
 refine (W90 w X picks a1 c1 col1 col2  _ (v picks) h1).mono ?_
 rintro _ _ _ _ ⟨r, rfl, h⟩
 exact h
theorem W93 (w0) (X0) (i_ : Int) (cap1 : List (Int × Int)) (r1) (m1) (b1) (i1) (Q : Bool -> Prop) (hm : VC93 i_ cap1 Q) (h1 : OM kI tI false w0 X0 m1 r1 cap1) (hc1 : Cell w0 X0 b1 i1 59 [.map (some r1)]) (hA : Apart [i1, m1]) :
  Ret Try.prog 93 #[.int .i64 i_, .pointer (some ⟨b1, 0, none⟩)] (pR [i1, m1]) w0 X0 (fun w X' v => ∃ r, Q r /\ v = .bool r /\ Cell w X' b1 i1 59 [.map (some r1)] /\ OM kI tI false w X' m1 r1 cap1) := by
 unfold VC93 at hm
 refine enterR Try.func93 rfl (f0of [(i1, 901), (m1, 2001)]) (fun id => (bif Nat.beq id 901 then b1 else 0)) (args := [I i_, Pt 901 0]) (bxs := [(901, (59, [V (.map (some r1))]))]) kr rfl (BoxesOK.cons kr (hc1.map (f0of_at 0 hA.1 rfl)) BoxesOK.nil) (f0of_0 (fun q hq => (hA.2 q.1 (List.mem_map.2 ⟨q, hq, rfl⟩)).1)) ?_
 intro a hS hO hM
 have hP : Pin [(901, b1)] (fun id => (bif Nat.beq id 901 then b1 else 0)) := by intro q hq; simp at hq; rcases hq with rfl <;> rfl
 generalize (fun id => (bif Nat.beq id 901 then b1 else 0)) = Z at hS hP
 clear hc1
 replace h1 := h1.map (f := f0of [(i1, 901), (m1, 2001)]) (f0of_at 1 hA.1 rfl) hM
 refine rPb T hS [(0, I i_), (1, Pt 901 0)] fun a hS => ?_
 refine regO ?_
 refine oPb T hS 2 [(4, V (.map (some r1))), (5, I i_)] fun a hS => ?_
 refine op1 (mlook kI tI false (zv := .int .i64 0) (z := 0) i_ hS kr kr kr kr Try.underlying59 Try.underlying3 kr rfl h1 ?_)
 intro v101 a hv hS
 replace hv : tI.R _ _ [v101] _ := hv
 cases hv
 refine ePb T hS [(3, B (((mget cap1 i_).getD 0) == 0))] fun a hS => ?_
 refine wret ?_
 exact finR T hS hO (fun c h => f0of_zero kr h) (fun c h => f0of_else (l := [(i1, 901), (m1, 2001)]) h) (f1of [(i1, 901), (m1, 2001)]) rfl (r := [.bool (((mget cap1 i_).getD 0) == 0)]) kr (fun X' hM hC => ⟨(((mget cap1 i_).getD 0) == 0), hm, rfl, ((hS.cell (id := 901) (t := 59) (cs := [V (.map (some r1))]) kr).out (f := (f1of [(i1, 901), (m1, 2001)])) hC kr kr (hP.at 0 rfl)), (h1.out (f := (f1of [(i1, 901), (m1, 2001)])) hM hC kr kr)⟩)
theorem C93 (v : ∀ (i_ : Int) (cap1 : List (Int × Int)), VC93 i_ cap1 (fun r => r = witness_absent_1 i_ cap1)) : S93 := by
 intro w X i_ cap1 r1 m1  b1 i1 h1 hc1 hA
 refine (W93 w X i_ cap1 r1 m1  b1 i1 _ (v i_ cap1) h1 hc1 hA).mono ?_
 rintro _ _ _ _ ⟨r, rfl, h⟩
 exact h
theorem W87 (k90 : S90) (k93 : S93) (w0) (X0) (l_ : List Api_Oper) (picks : List Api_Pick) (pending : Bool) (a1) (c1) (a2) (c2) (Q : (List Int) -> Prop) (hm : VC87 l_ picks pending Q) (h1 : RS tApi_Oper w0 X0 a1 l_ c1) (h2 : RS tApi_Pick w0 X0 a2 picks c2) :
  Ret Try.prog 87 #[.slice a1 l_.length c1, .slice a2 picks.length c2, .bool pending] xnone w0 X0 (fun w X' v => ∃ r, Q r /\ ∃ ra1 rc1, v = .slice ra1 r.length rc1 /\ RS tI w X' ra1 r rc1) := by
 unfold VC87 at hm
 replace hm := hm (h1.sm kr)
 replace hm := hm (h2.sm kr)
 refine enter Try.func87 rfl (vals := [.slice a1 l_.length c1, .slice a2 picks.length c2, .bool pending]) kr ?_
 intro Z a hS hO hM
 replace h1 := h1.m0 hM
 replace h2 := h2.m0 hM
 refine rPb T hS [(0, Sl a1 l_ c1), (1, Sl a2 picks c2), (2, B pending)] fun a hS => ?_
 refine regO ?_
 refine oPb T hS 1 [(0, Sl a1 l_ c1), (2, B pending), (11, Sl a2 picks c2)] fun a hS => ?_
 refine op1 (call hS kr kr hb90 kr (fun _ _ => rfl) (k90 _ _ picks a2 c2 2106 701 h2) ?_)
 intro v101 a w102 X103 hE hp hS
 replace hO := hO.m2 hE
 replace h1 := h1.m1 hE
 replace h2 := h2.m1 hE
 obtain ⟨r106, b107, hp, hc108, h105⟩ := hp
 obtain ⟨r104, hr⟩ : ∃ r, witness_absent picks = r := ⟨_, rfl⟩
 replace hm := hm r104 hr
 rw [hr] at h105
 clear hr
 subst hp
 replace hS := hS.newbox (id := 701) (t := 59) (cs := [V (.map (some r106))]) kr kr hc108 rfl
 replace hS := hS.convS (t := 12) (x := V (.func (.func 93) #[] #[.pointer (some ⟨b107, 0, none⟩)])) (y := .f (.func 93) [] [.p 701 0]) kr rfl
 generalize (upd Z 701 b107) = Z at hS
 clear hc108
 refine ePb T hS [(0, Sl a1 l_ c1), (2, B pending), (7, .f (.func 93) [] [.p 701 0])] fun a hS => ?_
 refine rPb T hS [(0, Sl a1 l_ c1), (2, B pending), (7, .f (.func 93) [] [.p 701 0]), (8, V (.slice none 0 0))] fun a hS => ?_
 refine wcut (fun a w => ∃ (Z : Nat -> Nat) (X : Nat -> Nat) (y109 : List Int) (a110 : Option Addr) (c111 : Nat), VC87_J1 Q y109 /\ St Try.f87.ntmps ⟨[(8, Sl a110 y109 c111)], []⟩ Z a w X /\ Old w0 X0 w X /\ OS tI 3 w X 1007 a110 y109 c111) ?_ ?_
 ·refine rPb T hS [(2, B pending), (7, .f (.func 93) [] [.p 701 0]), (8, V (.slice none 0 0)), (13, Sl a1 l_ c1), (14, I (lN l_)), (15, I 0)] fun a hS => ?_
  refine wblock ?_
  obtain ⟨I1, μ1, hm0, hm⟩ := hm
  refine wloop (σ := (List Int) × Int) (fun s a w => ∃ Z X a116 c117, I1 s.1 s.2 /\ St Try.f87.ntmps ⟨[(2, B pending), (7, .f (.func 93) [] [.p 701 0]), (8, Sl a116 s.1 c117), (13, Sl a1 l_ c1), (14, I (lN l_)), (15, I s.2)], [(701, (59, [V (.map (some r106))]))]⟩ Z a w X /\ Old w0 X0 w X /\ OS tI 3 w X 1007 a116 s.1 c117 /\ RS tApi_Oper w X a1 l_ c1 /\ OM kI tI false w X 2106 r106 r104) (fun s => μ1 s.1 s.2) (⟨[], 0⟩) ?_ ?_
  ·exact ⟨Z, _, none, 0, hm0, hS.sl _, hO, (OS.nil _ _ _ _ _), h1, h105⟩
  rintro ⟨y115, y120⟩ a w160 ⟨Z, X159, a116, c117, hI, hS, hO, h118, h119, h121⟩
  replace hm := hm y115 y120 hI
  clear hI hm0
  refine rPb T hS [(2, B pending), (7, .f (.func 93) [] [.p 701 0]), (8, Sl a116 y115 c117), (13, Sl a1 l_ c1), (14, I (lN l_)), (15, I y120), (16, B (decide (y120 < (lN l_))))] fun a hS => ?_
  refine wseq ?_
  refine wcond hS (b := decide (y120 < (lN l_))) kr (fun hb => ?_) fun hb => ?_
  ·replace hm := hm.1 hb
   refine wskip ?_
   refine wcut (fun a w => ∃ (Z : Nat -> Nat) (X : Nat -> Nat) (y122 : List Int) (a123 : Option Addr) (c124 : Nat), VC87_J2 I1 μ1 y115 y120 y122 /\ St Try.f87.ntmps ⟨[(2, B pending), (7, .f (.func 93) [] [.p 701 0]), (8, Sl a123 y122 c124), (13, Sl a1 l_ c1), (14, I (lN l_)), (15, I y120)], [(701, (59, [V (.map (some r106))]))]⟩ Z a w X /\ Old w0 X0 w X /\ OS tI 3 w X 1007 a123 y122 c124 /\ RS tApi_Oper w X a1 l_ c1 /\ OM kI tI false w X 2106 r106 r104) ?_ ?_
   ·refine wblock ?_
    refine regO ?_
    refine oPb T hS 1 [(2, B pending), (7, .f (.func 93) [] [.p 701 0]), (8, Sl a116 y115 c117), (13, Sl a1 l_ c1), (14, I (lN l_)), (15, I y120), (17, I y120)] fun a hS => ?_
    obtain ⟨hq, hm⟩ := hm
    refine op1 (index (e := 61) (k := .i64) T hS kr kr kr kr h119 kr kr hq.1 hq.2 ?_)
    intro A128 a h129 hS
    refine op1 (loadA T hS kr kr kr h129 kr kr ?_)
    intro v130 a hv hS
    subst hv
    refine eM T hS ⟨[(2, B pending), (7, .f (.func 93) [] [.p 701 0]), (8, Sl a116 y115 c117), (9, I y120), (10, Pt 11 0), (13, Sl a1 l_ c1), (14, I (lN l_)), (15, I y120)], [(11, (61, (cP (gi l_ y120)))), (701, (59, [V (.map (some r106))]))]⟩ fun Z a w155 X156 hS hE hr => ?_
    replace hO := hO.m2 hE
    replace h118 := h118.m2 hE
    replace h119 := h119.m1 hE
    replace h121 := h121.m2 hE
    clear hE hr
    refine wcut (fun a w => ∃ (Z : Nat -> Nat) (X : Nat -> Nat) (y131 : List Int) (y136 : Bool) (a132 : Option Addr) (c133 : Nat), VC87_J3 I1 μ1 y115 y120 y131 y136 /\ St Try.f87.ntmps ⟨[(2, B pending), (7, .f (.func 93) [] [.p 701 0]), (8, Sl a132 y131 c133), (9, I y120), (13, Sl a1 l_ c1), (14, I (lN l_)), (15, I y120), (29, B y136)], [(701, (59, [V (.map (some r106))]))]⟩ Z a w X /\ Old w0 X0 w X /\ OS tI 3 w X 1007 a132 y131 c133 /\ RS tApi_Oper w X a1 l_ c1 /\ OM kI tI false w X 2106 r106 r104) ?_ ?_
    ·refine region ?_
     refine oP T hS 6 ⟨[(2, B pending), (7, .f (.func 93) [] [.p 701 0]), (8, Sl a116 y115 c117), (9, I y120), (13, Sl a1 l_ c1), (14, I (lN l_)), (15, I y120), (25, B ((((gi l_ y120).End) == (-1)) == pending))], [(701, (59, [V (.map (some r106))]))]⟩ fun a hS => ?_
     rcases bft ((((gi l_ y120).End) == (-1)) == pending) with hb | hb
     ·replace hS := hS.lit (t := 25) kr hb
      replace hm := hm.1 hb
      refine oPb T hS 2 [(2, B pending), (7, .f (.func 93) [] [.p 701 0]), (8, Sl a116 y115 c117), (9, I y120), (13, Sl a1 l_ c1), (14, I (lN l_)), (15, I y120), (25, B true), (26, .f (.func 93) [] [.p 701 0]), (27, I y120)] fun a hS => ?_
      refine op1 (callCR (fi := []) (cp := [.p 701 0]) hS kr kr hb93 kr kr (k93 _ _ y120 r104 r106 2106 (Z 701) 701 h121 (hS.cell (id := 701) (t := 59) (cs := [V (.map (some r106))]) kr) ⟨by decide, by decide⟩) ?_)
      intro v147 a w148 X149 hE hp hS
      clear h121
      replace hO := hO.m2 hE
      replace h118 := h118.m2 hE
      replace h119 := h119.m1 hE
      obtain ⟨hp, hc151, h152⟩ := hp
      obtain ⟨r150, hr⟩ : ∃ r, witness_absent_1 y120 r104 = r := ⟨_, rfl⟩
      replace hm := hm r150 hr
      rw [hr] at hp
      clear hr
      subst hp
      replace hS := hS.addbox (id := 701) (t := 59) (cs := [V (.map (some r106))]) kr hc151
      clear hc151
      refine ePb T hS [(2, B pending), (7, .f (.func 93) [] [.p 701 0]), (8, Sl a116 y115 c117), (9, I y120), (13, Sl a1 l_ c1), (14, I (lN l_)), (15, I y120), (29, B r150)] fun a hS => ?_
      exact ⟨Z, _, y115, r150, a116, c117, hm, hS.sl _, hO, h118, h119, h152⟩
     replace hS := hS.lit (t := 25) kr hb
     replace hm := hm.2 hb
     refine ePb T hS [(2, B pending), (7, .f (.func 93) [] [.p 701 0]), (8, Sl a116 y115 c117), (9, I y120), (13, Sl a1 l_ c1), (14, I (lN l_)), (15, I y120), (29, B false)] fun a hS => ?_
     exact ⟨Z, _, y115, false, a116, c117, hm, hS.sl _, hO, h118, h119, h121⟩
    rintro a w154 ⟨Z, X153, y131, y136, a132, c133, hm, hS, hO, h134, h135, h137⟩
    unfold VC87_J3 at hm
    refine wcond hS (b := y136) kr (fun hb => ?_) fun hb => ?_
    ·replace hm := hm.1 hb
     refine region ?_
     refine oPb T hS 2 [(2, B pending), (7, .f (.func 93) [] [.p 701 0]), (8, Sl a132 y131 c133), (13, Sl a1 l_ c1), (14, I (lN l_)), (15, I y120), (30, Sl a132 y131 c133), (31, I y120)] fun a hS => ?_
     refine op1 (lit (E := 3) (col := 0) (T := tI) (vals := [.int .i64 y120]) (ys := [y120]) T hS kr kr kr kr (by exact ⟨rfl, trivial⟩) rfl kr kr kr kr ?_)
     intro b138 a w139 X140 hE h141 hN hS
     clear hN
     replace hO := hO.m2 hE
     replace h134 := h134.m2 hE
     replace h135 := h135.m1 hE
     replace h137 := h137.m2 hE
     replace h141 := h141.rs0
     obtain ⟨hq, hm⟩ := hm
     obtain ⟨news, hN⟩ := h141.src
     refine op1 (append (E := 3) (T := tI) (col := 1007) (xs := y131) T hS kr kr kr kr h134 hN kr kr kr kr hq ?_)
     intro a145 c146 a w142 X143 hE h144 hS
     clear hq hN
     clear h134
     replace hO := hO.m2 hE
     replace h135 := h135.m1 hE
     replace h137 := h137.m2 hE
     replace h141 := h141.m1 hE
     refine ePb T hS [(2, B pending), (7, .f (.func 93) [] [.p 701 0]), (8, Sl a145 (y131 ++ [y120]) c146), (13, Sl a1 l_ c1), (14, I (lN l_)), (15, I y120)] fun a hS => ?_
     exact ⟨Z, _, y131 ++ [y120], a145, c146, hm, hS.sl _, hO, h144, h135, h137⟩
    replace hm := hm.2 hb
    refine wskip ?_
    exact ⟨Z, _, y131, a132, c133, hm, hS.sl _, hO, h134, h135, h137⟩
   rintro a w158 ⟨Z, X157, y122, a123, c124, hm, hS, hO, h125, h126, h127⟩
   unfold VC87_J2 at hm
   refine region (ePb T hS [(2, B pending), (7, .f (.func 93) [] [.p 701 0]), (8, Sl a123 y122 c124), (13, Sl a1 l_ c1), (14, I (lN l_)), (15, I (wR (y120 + 1)))] fun a hS => ?_)
   exact ⟨⟨y122, wR (y120 + 1)⟩, ⟨Z, _, a123, c124, hm.1, hS.sl _, hO, h125, h126, h127⟩, hm.2⟩
  replace hm := hm.2 hb
  refine wexit (by rfl) ?_
  exact ⟨Z, _, y115, a116, c117, hm, hS.sl _, hO, h118⟩
 rintro a w162 ⟨Z, X161, y109, a110, c111, hm, hS, hO, h112⟩
 unfold VC87_J1 at hm
 refine rPb T hS [(6, Sl a110 y109 c111)] fun a hS => ?_
 refine wret ?_
 obtain ⟨X113, hE, hF⟩ := h112.freeze (by decide)
 replace hS := hS.ev hE (xone_box kr)
 replace hO := hO.m2 hE
 have h114 := hF; clear hE hF
 exact fin T hS hO (fun c => c) rfl (r := [.slice a110 y109.length c111]) kr (fun X' hM hC => ⟨y109, hm, a110, c111, rfl, h114.m0 hM⟩)
theorem C87 (k90 : S90) (k93 : S93) (v : ∀ (l_ : List Api_Oper) (picks : List Api_Pick) (pending : Bool), preT3 l_ picks pending -> VC87 l_ picks pending (fun r => r = witness_those l_ picks pending)) : S87 := by
 intro w X l_ picks pending a1 c1 a2 c2   hp h1 h2
 refine (W87 k90 k93 w X l_ picks pending a1 c1 a2 c2   _ (v l_ picks pending hp) h1 h2).mono ?_
 rintro _ _ _ _ ⟨r, rfl, h⟩
 exact h
theorem W82 (k87 : S87) (w0) (X0) (l_ : List Api_Oper) (picks : List Api_Pick) (a1) (c1) (a2) (c2) (Q : (List Int) -> Prop) (hm : VC82 l_ picks Q) (h1 : RS tApi_Oper w0 X0 a1 l_ c1) (h2 : RS tApi_Pick w0 X0 a2 picks c2) :
  Ret Try.prog 82 #[.slice a1 l_.length c1, .slice a2 picks.length c2] xnone w0 X0 (fun w X' v => ∃ r, Q r /\ ∃ ra1 rc1, v = .slice ra1 r.length rc1 /\ RS tI w X' ra1 r rc1) := by
 unfold VC82 at hm
 replace hm := hm (h1.sm kr)
 replace hm := hm (h2.sm kr)
 refine enter Try.func82 rfl (vals := [.slice a1 l_.length c1, .slice a2 picks.length c2]) kr ?_
 intro Z a hS hO hM
 replace h1 := h1.m0 hM
 replace h2 := h2.m0 hM
 refine rPb T hS [(0, Sl a1 l_ c1), (1, Sl a2 picks c2)] fun a hS => ?_
 refine regO ?_
 refine oPb T hS 2 [(5, Sl a1 l_ c1), (6, Sl a2 picks c2)] fun a hS => ?_
 obtain ⟨hq, hm⟩ := hm
 refine op1 (call hS kr kr hb87 kr (fun _ _ => rfl) (k87 _ _ l_ picks false a1 c1 a2 c2 hq h1 h2) ?_)
 intro v101 a w102 X103 hE hp hS
 replace hO := hO.m2 hE
 replace h1 := h1.m1 hE
 replace h2 := h2.m1 hE
 obtain ⟨a105, c106, hp, h107⟩ := hp
 obtain ⟨r104, hr⟩ : ∃ r, witness_those l_ picks false = r := ⟨_, rfl⟩
 replace hm := hm r104 hr
 rw [hr] at hp h107
 clear hr
 subst hp
 replace hm := hm (h107.sm kr)
 refine ePb T hS [(4, Sl a105 r104 c106)] fun a hS => ?_
 refine wret ?_
 exact fin T hS hO (fun c => c) rfl (r := [.slice a105 r104.length c106]) kr (fun X' hM hC => ⟨r104, hm, a105, c106, rfl, h107.m0 hM⟩)
theorem C82 (k87 : S87) (v : ∀ (l_ : List Api_Oper) (picks : List Api_Pick), preT2 l_ picks -> VC82 l_ picks (fun r => r = witness_Missing l_ picks)) : S82 := by
 intro w X l_ picks a1 c1 a2 c2   hp h1 h2
 refine (W82 k87 w X l_ picks a1 c1 a2 c2   _ (v l_ picks hp) h1 h2).mono ?_
 rintro _ _ _ _ ⟨r, rfl, h⟩
 exact h
theorem W76 (w0) (X0) (a_ : Api_Oper) (b_ : Api_Oper) (Q : Bool -> Prop) (hm : VC76 a_ b_ Q) :
  Ret Try.prog 76 #[.agg #[.int .i64 a_.Prc, .int .i64 a_.Kind, .int .i64 a_.Start, .int .i64 a_.End, .int .i64 a_.Result], .agg #[.int .i64 b_.Prc, .int .i64 b_.Kind, .int .i64 b_.Start, .int .i64 b_.End, .int .i64 b_.Result]] xnone w0 X0 (fun w X' v => ∃ r, Q r /\ v = .bool r) := by
 unfold VC76 at hm
 refine enter Try.func76 rfl (vals := [.agg #[.int .i64 a_.Prc, .int .i64 a_.Kind, .int .i64 a_.Start, .int .i64 a_.End, .int .i64 a_.Result], .agg #[.int .i64 b_.Prc, .int .i64 b_.Kind, .int .i64 b_.Start, .int .i64 b_.End, .int .i64 b_.Result]]) kr ?_
 intro Z a hS hO hM
 refine rM T hS ⟨[(2, Pt 3 0), (3, Pt 4 0)], [(3, (61, (cP a_))), (4, (61, (cP b_)))]⟩ fun Z a w101 X102 hS hE hr => ?_
 replace hO := hO.m2 hE
 clear hE hr
 refine rP T hS ⟨[(4, B ((decide (a_.End ≥ 0)) && (decide (a_.End < b_.Start))))], []⟩ (sp := [8]) fun a hS => ?_
 refine wret ?_
 exact fin T hS hO (fun c => c) rfl (r := [.bool ((decide (a_.End ≥ 0)) && (decide (a_.End < b_.Start)))]) kr (fun X' hM hC => ⟨((decide (a_.End ≥ 0)) && (decide (a_.End < b_.Start))), hm, rfl⟩)
theorem C76 (v : ∀ (a_ : Api_Oper) (b_ : Api_Oper), VC76 a_ b_ (fun r => r = oper_Ahead a_ b_)) : S76 := by
 intro w X a_ b_    
 refine (W76 w X a_ b_    _ (v a_ b_)).mono ?_
 rintro _ _ _ _ ⟨r, rfl, h⟩
 exact h
end Go.Proofs.Ytojdelnnjhbgbaa
