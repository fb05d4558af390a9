/- Walks: each function returns what its condition asks. Condition: the contracts of its callees, handed in. -/
import Derived.Test.YtojdelnnjhbgbaaZWalksS
set_option linter.all false
namespace Go.Proofs.Ytojdelnnjhbgbaa
open Go Go.Sv
set_option maxHeartbeats 1000000
theorem W15 (k13 : S13) (k19 : S19) (k27 : S27) (w0) (X0) (o_ : Api_Object) (l_ : List Api_Event) (a1) (c1) (a2) (c2) (Q : (List Api_Event) × Int -> Prop) (hm : VC15 o_ l_ Q) (h1 : RS tApi_Row w0 X0 a1 o_.Rows c1) (h2 : RS tApi_Event w0 X0 a2 l_ c2) :
  Ret Try.prog 15 #[.agg #[.int .i64 o_.States, .int .i64 o_.Kinds, .int .i64 o_.Init, .slice a1 o_.Rows.length c1], .slice a2 l_.length c2] xnone w0 X0 (fun w X' v => ∃ r, Q r /\ ∃ ra1 rc1, v = .tuple #[.slice ra1 r.1.length rc1, .int .i64 r.2] /\ RS tApi_Event w X' ra1 r.1 rc1) := by
 unfold VC15 at hm
 replace hm := hm (h1.sm kr)
 replace hm := hm (h2.sm kr)
 refine enter Try.func15 rfl (vals := [.agg #[.int .i64 o_.States, .int .i64 o_.Kinds, .int .i64 o_.Init, .slice a1 o_.Rows.length c1], .slice a2 l_.length c2]) kr ?_
 intro Z a hS hO hM
 replace h1 := h1.m0 hM
 replace h2 := h2.m0 hM
 refine rM T hS ⟨[(1, Sl a2 l_ c2), (2, Pt 3 0)], [(3, (24, (cO o_ a1 c1)))]⟩ fun Z a w154 X155 hS hE hr => ?_
 replace hO := hO.m2 hE
 replace h1 := h1.m1 hE
 replace h2 := h2.m1 hE
 clear hE hr
 refine regO ?_
 refine oPb T hS 2 [(1, Sl a2 l_ c2), (2, Pt 3 0), (16, V (.agg #[.int .i64 o_.States, .int .i64 o_.Kinds, .int .i64 o_.Init, .slice a1 o_.Rows.length c1])), (17, Sl a2 l_ c2)] fun a hS => ?_
 obtain ⟨hq, hm⟩ := hm
 refine op1 (call hS kr kr hb13 kr (fun _ _ => rfl) (k13 _ _ o_ l_ a1 c1 a2 c2 hq h1 h2) ?_)
 intro v101 a w102 X103 hE hp hS
 replace hO := hO.m2 hE
 replace h1 := h1.m1 hE
 replace h2 := h2.m1 hE
 obtain ⟨r104, hr⟩ : ∃ r, ref41_Head o_ l_ = r := ⟨_, rfl⟩
 replace hm := hm r104 hr
 rw [hr] at hp
 clear hr
 subst hp
 refine ePb T hS [(1, Sl a2 l_ c2), (2, Pt 3 0), (6, I r104.1), (7, I r104.2)] fun a hS => ?_
 refine wseq ?_
 refine rPb T hS [(1, Sl a2 l_ c2), (2, Pt 3 0), (6, I r104.1), (7, I r104.2), (22, B (r104.2 != 0))] fun a hS => ?_
 refine wcond hS (b := (r104.2 != 0)) kr (fun hb => ?_) fun hb => ?_
 ·replace hm := hm.1 hb
  refine rP T hS ⟨[(4, V (.slice none 0 0)), (5, I r104.2)], []⟩ fun a hS => ?_
  refine wret ?_
  exact fin T hS hO (fun c => c) rfl (r := [.slice none 0 0, .int .i64 r104.2]) kr (fun X' hM hC => ⟨([], r104.2), hm, none, 0, rfl, RS.empty _ _ _⟩)
 replace hm := hm.2 hb
 refine wskip ?_
 refine regO ?_
 refine oPb T hS 2 [(2, Pt 3 0), (24, Sl a2 l_ c2), (25, I r104.1)] fun a hS => ?_
 obtain ⟨hq, hm⟩ := hm
 refine op1 (slice0 (E := 54) (kh := .i64) T hS kr kr kr kr h2 kr kr hq.1 hq.2 ?_)
 intro a105 c106 a h107 hS
 refine ePb T hS [(2, Pt 3 0), (8, Sl a105 (l_.take r104.1.toNat) c106)] fun a hS => ?_
 refine regO ?_
 refine oPb T hS 1 [(2, Pt 3 0), (8, Sl a105 (l_.take r104.1.toNat) c106), (28, Sl a105 (l_.take r104.1.toNat) c106)] fun a hS => ?_
 refine op1 (call hS kr kr hb27 kr (fun _ _ => rfl) (k27 _ _ (l_.take r104.1.toNat) a105 c106 h107) ?_)
 intro v108 a w109 X110 hE hp hS
 replace hO := hO.m2 hE
 replace h1 := h1.m1 hE
 replace h107 := h107.m1 hE
 obtain ⟨a112, c113, hp, h114⟩ := hp
 obtain ⟨r111, hr⟩ : ∃ r, ref27_Of (l_.take r104.1.toNat) = r := ⟨_, rfl⟩
 replace hm := hm r111 hr
 rw [hr] at hp h114
 clear hr
 subst hp
 replace hm := hm (h114.sm kr)
 refine ePb T hS [(2, Pt 3 0), (8, Sl a105 (l_.take r104.1.toNat) c106), (9, Sl a112 r111.1 c113)] fun a hS => ?_
 refine wcut (fun a w => ∃ (Z : Nat -> Nat) (X : Nat -> Nat) (y115 : List Api_Event) (a116 : Option Addr) (c117 : Nat), VC15_J1 Q y115 /\ St Try.f15.ntmps ⟨[(8, Sl a116 y115 c117)], []⟩ Z a w X /\ Old w0 X0 w X /\ RS tApi_Event w X a116 y115 c117) ?_ ?_
 ·refine rPb T hS [(2, Pt 3 0), (8, Sl a105 (l_.take r104.1.toNat) c106), (11, I (wR ((lN r111.1) - 1)))] fun a hS => ?_
  refine wblock ?_
  obtain ⟨I1, μ1, hm0, hm⟩ := hm
  refine wloop (σ := (List Api_Event) × Int) (fun s a w => ∃ Z X a120 c121, I1 s.1 s.2 /\ St Try.f15.ntmps ⟨[(2, Pt 3 0), (8, Sl a120 s.1 c121), (11, I s.2)], [(3, (24, (cO o_ a1 c1)))]⟩ Z a w X /\ Old w0 X0 w X /\ RS tApi_Event w X a120 s.1 c121 /\ RS tApi_Row w X a1 o_.Rows c1) (fun s => μ1 s.1 s.2) (⟨l_.take r104.1.toNat, wR ((lN r111.1) - 1)⟩) ?_ ?_
  ·exact ⟨Z, _, a105, c106, hm0, hS.sl _, hO, h107, h1⟩
  rintro ⟨y119, y123⟩ a w151 ⟨Z, X150, a120, c121, hI, hS, hO, h122, h124⟩
  replace hm := hm y119 y123 hI
  clear hI hm0
  refine wseq ?_
  refine rPb T hS [(2, Pt 3 0), (8, Sl a120 y119 c121), (11, I y123), (36, B (decide (y123 ≥ 0)))] fun a hS => ?_
  refine wcond hS (b := decide (y123 ≥ 0)) kr (fun hb => ?_) fun hb => ?_
  ·replace hm := hm.1 hb
   refine wskip ?_
   refine wcut (fun a w => ∃ (Z : Nat -> Nat) (X : Nat -> Nat) (y125 : List Api_Event) (a126 : Option Addr) (c127 : Nat), VC15_J2 I1 μ1 y119 y123 y125 /\ St Try.f15.ntmps ⟨[(2, Pt 3 0), (8, Sl a126 y125 c127), (11, I y123)], [(3, (24, (cO o_ a1 c1)))]⟩ Z a w X /\ Old w0 X0 w X /\ RS tApi_Event w X a126 y125 c127 /\ RS tApi_Row w X a1 o_.Rows c1) ?_ ?_
   ·refine wblock ?_
    refine regO ?_
    refine oPb T hS 2 [(2, Pt 3 0), (8, Sl a120 y119 c121), (11, I y123), (39, Sl a120 y119 c121), (40, I y123)] fun a hS => ?_
    refine op1 (lit (E := 3) (col := 0) (T := tI) (vals := [.int .i64 y123]) (ys := [y123]) T hS kr kr kr kr (by exact ⟨rfl, trivial⟩) rfl kr kr kr kr ?_)
    intro b130 a w131 X132 hE h133 hN hS
    clear hN
    replace hO := hO.m2 hE
    replace h122 := h122.m1 hE
    replace h124 := h124.m1 hE
    replace h133 := h133.rs0
    obtain ⟨hq, hm⟩ := hm
    refine op1 (call hS kr kr hb19 kr (fun _ _ => rfl) (k19 _ _ y119 [y123] a120 c121 (some ⟨b130, 0, none⟩) 1 hq h122 h133) ?_)
    intro v134 a w135 X136 hE hp hS
    replace hO := hO.m2 hE
    replace h122 := h122.m1 hE
    replace h124 := h124.m1 hE
    replace h133 := h133.m1 hE
    obtain ⟨a138, c139, hp, h140⟩ := hp
    obtain ⟨r137, hr⟩ : ∃ r, ref41_Without y119 [y123] = r := ⟨_, rfl⟩
    replace hm := hm r137 hr
    rw [hr] at hp h140
    clear hr
    subst hp
    replace hm := hm (h140.sm kr)
    refine ePb T hS [(2, Pt 3 0), (8, Sl a120 y119 c121), (11, I y123), (12, Sl a138 r137 c139)] fun a hS => ?_
    refine regO ?_
    refine oPb T hS 2 [(2, Pt 3 0), (8, Sl a120 y119 c121), (11, I y123), (12, Sl a138 r137 c139), (44, V (.agg #[.int .i64 o_.States, .int .i64 o_.Kinds, .int .i64 o_.Init, .slice a1 o_.Rows.length c1])), (45, Sl a138 r137 c139)] fun a hS => ?_
    obtain ⟨hq, hm⟩ := hm
    refine op1 (call hS kr kr hb13 kr (fun _ _ => rfl) (k13 _ _ o_ r137 a1 c1 a138 c139 hq h124 h140) ?_)
    intro v141 a w142 X143 hE hp hS
    replace hO := hO.m2 hE
    replace h122 := h122.m1 hE
    replace h124 := h124.m1 hE
    replace h140 := h140.m1 hE
    obtain ⟨r144, hr⟩ : ∃ r, ref41_Head o_ r137 = r := ⟨_, rfl⟩
    replace hm := hm r144 hr
    rw [hr] at hp
    clear hr
    subst hp
    refine ePb T hS [(2, Pt 3 0), (8, Sl a120 y119 c121), (11, I y123), (12, Sl a138 r137 c139), (13, I r144.1), (14, I r144.2)] fun a hS => ?_
    refine rPb T hS [(2, Pt 3 0), (8, Sl a120 y119 c121), (11, I y123), (12, Sl a138 r137 c139), (13, I r144.1), (50, B (r144.2 == 0))] fun a hS => ?_
    refine wcond hS (b := (r144.2 == 0)) kr (fun hb => ?_) fun hb => ?_
    ·replace hm := hm.1 hb
     refine region ?_
     refine oPb T hS 2 [(2, Pt 3 0), (8, Sl a120 y119 c121), (11, I y123), (51, Sl a138 r137 c139), (52, I r144.1)] fun a hS => ?_
     obtain ⟨hq, hm⟩ := hm
     refine op1 (slice0 (E := 54) (kh := .i64) T hS kr kr kr kr h140 kr kr hq.1 hq.2 ?_)
     intro a145 c146 a h147 hS
     refine ePb T hS [(2, Pt 3 0), (8, Sl a145 (r137.take r144.1.toNat) c146), (11, I y123)] fun a hS => ?_
     exact ⟨Z, _, r137.take r144.1.toNat, a145, c146, hm, hS.sl _, hO, h147, h124⟩
    replace hm := hm.2 hb
    refine wskip ?_
    exact ⟨Z, _, y119, a120, c121, hm, hS.sl _, hO, h122, h124⟩
   rintro a w149 ⟨Z, X148, y125, a126, c127, hm, hS, hO, h128, h129⟩
   unfold VC15_J2 at hm
   refine region (ePb T hS [(2, Pt 3 0), (8, Sl a126 y125 c127), (11, I (wR (y123 - 1)))] fun a hS => ?_)
   exact ⟨⟨y125, wR (y123 - 1)⟩, ⟨Z, _, a126, c127, hm.1, hS.sl _, hO, h128, h129⟩, hm.2⟩
  replace hm := hm.2 hb
  refine wexit (by rfl) ?_
  exact ⟨Z, _, y119, a120, c121, hm, hS.sl _, hO, h122⟩
 rintro a w153 ⟨Z, X152, y115, a116, c117, hm, hS, hO, h118⟩
 unfold VC15_J1 at hm
 refine rPb T hS [(4, Sl a116 y115 c117), (5, I 0)] fun a hS => ?_
 refine wret ?_
 exact fin T hS hO (fun c => c) rfl (r := [.slice a116 y115.length c117, .int .i64 0]) kr (fun X' hM hC => ⟨(y115, 0), hm, a116, c117, rfl, h118.m0 hM⟩)
theorem C15 (k13 : S13) (k19 : S19) (k27 : S27) (v : ∀ (o_ : Api_Object) (l_ : List Api_Event), preRL o_ l_ -> VC15 o_ l_ (fun r => r = ref41_Part o_ l_)) : S15 := by
 intro w X o_ l_ a1 c1 a2 c2   hp h1 h2
 refine (W15 k13 k19 k27 w X o_ l_ a1 c1 a2 c2   _ (v o_ l_ hp) h1 h2).mono ?_
 rintro _ _ _ _ ⟨r, rfl, h⟩
 exact h
theorem W3 (k10 : S10) (k11 : S11) (k12 : S12) (k13 : S13) (k14 : S14) (k15 : S15) (k16 : S16) (k17 : S17) (k7 : S7) (k8 : S8) (k9 : S9) (w0) (X0) (o_ : Api_Object) (l_ : List Api_Event) (a1) (c1) (a2) (c2) (Q : Bool -> Prop) (hm : VC3 o_ l_ Q) (h1 : RS tApi_Row w0 X0 a1 o_.Rows c1) (h2 : RS tApi_Event w0 X0 a2 l_ c2) :
  Ret Try.prog 3 #[.agg #[.int .i64 o_.States, .int .i64 o_.Kinds, .int .i64 o_.Init, .slice a1 o_.Rows.length c1], .slice a2 l_.length c2] xnone w0 X0 (fun w X' v => ∃ r, Q r /\ v = .bool r) := by
 unfold VC3 at hm
 replace hm := hm (h1.sm kr)
 replace hm := hm (h2.sm kr)
 refine enter Try.func3 rfl (vals := [.agg #[.int .i64 o_.States, .int .i64 o_.Kinds, .int .i64 o_.Init, .slice a1 o_.Rows.length c1], .slice a2 l_.length c2]) kr ?_
 intro Z a hS hO hM
 replace h1 := h1.m0 hM
 replace h2 := h2.m0 hM
 refine rM T hS ⟨[(1, Sl a2 l_ c2), (2, Pt 3 0)], [(3, (24, (cO o_ a1 c1)))]⟩ fun Z a w173 X174 hS hE hr => ?_
 replace hO := hO.m2 hE
 replace h1 := h1.m1 hE
 replace h2 := h2.m1 hE
 clear hE hr
 refine wseq ?_
 refine regO ?_
 refine oPb T hS 2 [(1, Sl a2 l_ c2), (2, Pt 3 0), (20, V (.agg #[.int .i64 o_.States, .int .i64 o_.Kinds, .int .i64 o_.Init, .slice a1 o_.Rows.length c1])), (21, Sl a2 l_ c2)] fun a hS => ?_
 refine op1 (call hS kr kr hb7 kr (fun _ _ => rfl) (k7 _ _ o_ l_ a1 c1 a2 c2 h1 h2) ?_)
 intro v101 a w102 X103 hE hp hS
 replace hO := hO.m2 hE
 replace h1 := h1.m1 hE
 replace h2 := h2.m1 hE
 obtain ⟨r104, hr⟩ : ∃ r, law41_few o_ l_ = r := ⟨_, rfl⟩
 replace hm := hm r104 hr
 rw [hr] at hp
 clear hr
 subst hp
 refine ePb T hS [(1, Sl a2 l_ c2), (2, Pt 3 0), (23, B (!r104))] fun a hS => ?_
 refine wcond hS (b := (!r104)) kr (fun hb => ?_) fun hb => ?_
 ·replace hm := hm.1 hb
  refine regO ?_
  refine op1 (call hS kr kr hb8 kr (fun _ _ => rfl) (k8 _ _) ?_)
  intro v105 a w106 X107 hE hp hS
  replace hO := hO.m2 hE
  replace h1 := h1.m1 hE
  replace h2 := h2.m1 hE
  obtain ⟨r108, hr⟩ : ∃ r, law41_awake = r := ⟨_, rfl⟩
  replace hm := hm r108 hr
  rw [hr] at hp
  clear hr
  subst hp
  refine eP T hS ⟨[(4, B r108)], []⟩ fun a hS => ?_
  refine wret ?_
  exact fin T hS hO (fun c => c) rfl (r := [.bool r108]) kr (fun X' hM hC => ⟨r108, hm, rfl⟩)
 replace hm := hm.2 hb
 refine wskip (wseq ?_)
 refine regO ?_
 refine oPb T hS 1 [(1, Sl a2 l_ c2), (2, Pt 3 0), (26, Sl a2 l_ c2)] fun a hS => ?_
 refine op1 (call hS kr kr hb9 kr (fun _ _ => rfl) (k9 _ _ l_ a2 c2 h2) ?_)
 intro v109 a w110 X111 hE hp hS
 replace hO := hO.m2 hE
 replace h1 := h1.m1 hE
 replace h2 := h2.m1 hE
 obtain ⟨a113, c114, hp, h115⟩ := hp
 obtain ⟨r112, hr⟩ : ∃ r, oper_Of l_ = r := ⟨_, rfl⟩
 replace hm := hm r112 hr
 rw [hr] at hp h115
 clear hr
 subst hp
 replace hm := hm (h115.sm kr)
 refine ePb T hS [(1, Sl a2 l_ c2), (2, Pt 3 0), (5, Sl a113 r112.1 c114)] fun a hS => ?_
 refine rPb T hS [(1, Sl a2 l_ c2), (2, Pt 3 0), (32, B (decide ((lN r112.1) > 5)))] fun a hS => ?_
 refine wcond hS (b := decide ((lN r112.1) > 5)) kr (fun hb => ?_) fun hb => ?_
 ·replace hm := hm.1 hb
  refine regO ?_
  refine op1 (call hS kr kr hb8 kr (fun _ _ => rfl) (k8 _ _) ?_)
  intro v116 a w117 X118 hE hp hS
  replace hO := hO.m2 hE
  replace h1 := h1.m1 hE
  replace h2 := h2.m1 hE
  obtain ⟨r119, hr⟩ : ∃ r, law41_awake = r := ⟨_, rfl⟩
  replace hm := hm r119 hr
  rw [hr] at hp
  clear hr
  subst hp
  refine eP T hS ⟨[(4, B r119)], []⟩ fun a hS => ?_
  refine wret ?_
  exact fin T hS hO (fun c => c) rfl (r := [.bool r119]) kr (fun X' hM hC => ⟨r119, hm, rfl⟩)
 replace hm := hm.2 hb
 refine wskip ?_
 refine rM T hS ⟨[(1, Sl a2 l_ c2), (2, Pt 3 0), (7, Pt 8 0)], [(3, (24, (cO o_ a1 c1))), (8, (33, [I o_.States, I o_.Kinds, I o_.Init, Sl a1 o_.Rows c1, Sl a2 l_ c2]))]⟩ fun Z a w171 X172 hS hE hr => ?_
 replace hO := hO.m2 hE
 replace h1 := h1.m1 hE
 replace h2 := h2.m1 hE
 clear hE hr
 refine regO ?_
 refine oPb T hS 1 [(1, Sl a2 l_ c2), (2, Pt 3 0), (7, Pt 8 0), (38, V (.agg #[.int .i64 o_.States, .int .i64 o_.Kinds, .int .i64 o_.Init, .slice a1 o_.Rows.length c1, .slice a2 l_.length c2]))] fun a hS => ?_
 obtain ⟨hq, hm⟩ := hm
 refine op1 (call hS kr kr hb10 kr (fun _ _ => rfl) (k10 _ _ (⟨o_, l_⟩ : Histtext_Case) a1 c1 a2 c2 hq h1 h2) ?_)
 intro v120 a w121 X122 hE hp hS
 replace hO := hO.m2 hE
 replace h1 := h1.m1 hE
 replace h2 := h2.m1 hE
 obtain ⟨r123, hr⟩ : ∃ r, shrink_Lin (⟨o_, l_⟩ : Histtext_Case) = r := ⟨_, rfl⟩
 replace hm := hm r123 hr
 rw [hr] at hp
 clear hr
 subst hp
 refine ePb T hS [(1, Sl a2 l_ c2), (2, Pt 3 0), (7, Pt 8 0), (8, B r123.1), (9, I r123.2)] fun a hS => ?_
 refine regO ?_
 refine oPb T hS 2 [(1, Sl a2 l_ c2), (2, Pt 3 0), (7, Pt 8 0), (8, B r123.1), (9, I r123.2), (43, V (.agg #[.int .i64 o_.States, .int .i64 o_.Kinds, .int .i64 o_.Init, .slice a1 o_.Rows.length c1])), (44, Sl a2 l_ c2)] fun a hS => ?_
 obtain ⟨hq, hm⟩ := hm
 refine op1 (call hS kr kr hb11 kr (fun _ _ => rfl) (k11 _ _ o_ l_ a1 c1 a2 c2 hq h1 h2) ?_)
 intro v124 a w125 X126 hE hp hS
 replace hO := hO.m2 hE
 replace h1 := h1.m1 hE
 replace h2 := h2.m1 hE
 obtain ⟨r127, hr⟩ : ∃ r, ref41_Lin o_ l_ = r := ⟨_, rfl⟩
 replace hm := hm r127 hr
 rw [hr] at hp
 clear hr
 subst hp
 refine ePb T hS [(1, Sl a2 l_ c2), (2, Pt 3 0), (7, Pt 8 0), (8, B r123.1), (9, I r123.2), (10, B r127.1), (11, I r127.2)] fun a hS => ?_
 refine regO ?_
 refine oPb T hS 1 [(1, Sl a2 l_ c2), (2, Pt 3 0), (7, Pt 8 0), (8, B r123.1), (9, I r123.2), (10, B r127.1), (11, I r127.2), (49, V (.agg #[.int .i64 o_.States, .int .i64 o_.Kinds, .int .i64 o_.Init, .slice a1 o_.Rows.length c1, .slice a2 l_.length c2]))] fun a hS => ?_
 obtain ⟨hq, hm⟩ := hm
 refine op1 (call hS kr kr hb12 kr (fun _ _ => rfl) (k12 _ _ (⟨o_, l_⟩ : Histtext_Case) a1 c1 a2 c2 hq h1 h2) ?_)
 intro v128 a w129 X130 hE hp hS
 replace hO := hO.m2 hE
 replace h1 := h1.m1 hE
 replace h2 := h2.m1 hE
 obtain ⟨r131, hr⟩ : ∃ r, shrink_Head (⟨o_, l_⟩ : Histtext_Case) = r := ⟨_, rfl⟩
 replace hm := hm r131 hr
 rw [hr] at hp
 clear hr
 subst hp
 refine ePb T hS [(1, Sl a2 l_ c2), (2, Pt 3 0), (7, Pt 8 0), (8, B r123.1), (9, I r123.2), (10, B r127.1), (11, I r127.2), (12, I r131.1), (13, I r131.2)] fun a hS => ?_
 refine regO ?_
 refine oPb T hS 2 [(1, Sl a2 l_ c2), (2, Pt 3 0), (7, Pt 8 0), (8, B r123.1), (9, I r123.2), (10, B r127.1), (11, I r127.2), (12, I r131.1), (13, I r131.2), (54, V (.agg #[.int .i64 o_.States, .int .i64 o_.Kinds, .int .i64 o_.Init, .slice a1 o_.Rows.length c1])), (55, Sl a2 l_ c2)] fun a hS => ?_
 obtain ⟨hq, hm⟩ := hm
 refine op1 (call hS kr kr hb13 kr (fun _ _ => rfl) (k13 _ _ o_ l_ a1 c1 a2 c2 hq h1 h2) ?_)
 intro v132 a w133 X134 hE hp hS
 replace hO := hO.m2 hE
 replace h1 := h1.m1 hE
 replace h2 := h2.m1 hE
 obtain ⟨r135, hr⟩ : ∃ r, ref41_Head o_ l_ = r := ⟨_, rfl⟩
 replace hm := hm r135 hr
 rw [hr] at hp
 clear hr
 subst hp
 refine ePb T hS [(1, Sl a2 l_ c2), (2, Pt 3 0), (7, Pt 8 0), (8, B r123.1), (9, I r123.2), (10, B r127.1), (11, I r127.2), (12, I r131.1), (13, I r131.2), (14, I r135.1), (15, I r135.2)] fun a hS => ?_
 refine regO ?_
 refine oP T hS 1 ⟨[(1, Sl a2 l_ c2), (2, Pt 3 0), (8, B r123.1), (9, I r123.2), (10, B r127.1), (11, I r127.2), (12, I r131.1), (13, I r131.2), (14, I r135.1), (15, I r135.2), (60, V (.agg #[.int .i64 o_.States, .int .i64 o_.Kinds, .int .i64 o_.Init, .slice a1 o_.Rows.length c1, .slice a2 l_.length c2]))], [(3, (24, (cO o_ a1 c1)))]⟩ fun a hS => ?_
 obtain ⟨hq, hm⟩ := hm
 refine op1 (call hS kr kr hb14 kr (fun _ _ => rfl) (k14 _ _ (⟨o_, l_⟩ : Histtext_Case) a1 c1 a2 c2 hq h1 h2) ?_)
 intro v136 a w137 X138 hE hp hS
 replace hO := hO.m2 hE
 replace h1 := h1.m1 hE
 replace h2 := h2.m1 hE
 obtain ⟨a140, c141, a143, c144, hp, h142, h145⟩ := hp
 obtain ⟨r139, hr⟩ : ∃ r, shrink_Part (⟨o_, l_⟩ : Histtext_Case) = r := ⟨_, rfl⟩
 replace hm := hm r139 hr
 rw [hr] at hp h142 h145
 clear hr
 subst hp
 replace hm := hm (h142.sm kr)
 replace hm := hm (h145.sm kr)
 refine eM T hS ⟨[(1, Sl a2 l_ c2), (2, Pt 3 0), (8, B r123.1), (9, I r123.2), (10, B r127.1), (11, I r127.2), (12, I r131.1), (13, I r131.2), (14, I r135.1), (15, I r135.2), (16, Pt 17 0), (17, I r139.2)], [(3, (24, (cO o_ a1 c1))), (17, (33, [I r139.1.Object.States, I r139.1.Object.Kinds, I r139.1.Object.Init, Sl a140 r139.1.Object.Rows c141, Sl a143 r139.1.Events c144]))]⟩ fun Z a w169 X170 hS hE hr => ?_
 replace hO := hO.m2 hE
 replace h1 := h1.m1 hE
 replace h2 := h2.m1 hE
 replace h142 := h142.m1 hE
 replace h145 := h145.m1 hE
 clear hE hr
 refine regO ?_
 refine oPb T hS 2 [(2, Pt 3 0), (8, B r123.1), (9, I r123.2), (10, B r127.1), (11, I r127.2), (12, I r131.1), (13, I r131.2), (14, I r135.1), (15, I r135.2), (16, Pt 17 0), (17, I r139.2), (65, V (.agg #[.int .i64 o_.States, .int .i64 o_.Kinds, .int .i64 o_.Init, .slice a1 o_.Rows.length c1])), (66, Sl a2 l_ c2)] fun a hS => ?_
 obtain ⟨hq, hm⟩ := hm
 refine op1 (call hS kr kr hb15 kr (fun _ _ => rfl) (k15 _ _ o_ l_ a1 c1 a2 c2 hq h1 h2) ?_)
 intro v146 a w147 X148 hE hp hS
 replace hO := hO.m2 hE
 replace h1 := h1.m1 hE
 replace h2 := h2.m1 hE
 replace h142 := h142.m1 hE
 replace h145 := h145.m1 hE
 obtain ⟨a150, c151, hp, h152⟩ := hp
 obtain ⟨r149, hr⟩ : ∃ r, ref41_Part o_ l_ = r := ⟨_, rfl⟩
 replace hm := hm r149 hr
 rw [hr] at hp h152
 clear hr
 subst hp
 replace hm := hm (h152.sm kr)
 refine ePb T hS [(2, Pt 3 0), (8, B r123.1), (9, I r123.2), (10, B r127.1), (11, I r127.2), (12, I r131.1), (13, I r131.2), (14, I r135.1), (15, I r135.2), (16, Pt 17 0), (17, I r139.2), (18, Sl a150 r149.1 c151), (19, I r149.2)] fun a hS => ?_
 refine regO ?_
 refine oPb T hS 19 [(2, Pt 3 0), (16, Pt 17 0), (17, I r139.2), (18, Sl a150 r149.1 c151), (19, I r149.2), (88, B ((((r123.1 == r127.1) && (r123.2 == r127.2)) && (r131.1 == r135.1)) && (r131.2 == r135.2)))] (sp := [73, 78, 83]) fun a hS => ?_
 rcases bft ((((r123.1 == r127.1) && (r123.2 == r127.2)) && (r131.1 == r135.1)) && (r131.2 == r135.2)) with hb | hb
 ·replace hS := hS.lit (t := 88) kr hb
  replace hm := hm.1 hb
  refine oPb T hS 3 [(2, Pt 3 0), (16, Pt 17 0), (17, I r139.2), (19, I r149.2), (88, B true), (90, Sl a143 r139.1.Events c144), (91, Sl a150 r149.1 c151)] fun a hS => ?_
  refine op1 (call hS kr kr hb16 kr (fun _ _ => rfl) (k16 _ _ r139.1.Events r149.1 a143 c144 a150 c151 h145 h152) ?_)
  intro v153 a w154 X155 hE hp hS
  replace hO := hO.m2 hE
  replace h1 := h1.m1 hE
  replace h142 := h142.m1 hE
  replace h145 := h145.m1 hE
  replace h152 := h152.m1 hE
  obtain ⟨r156, hr⟩ : ∃ r, ref25_Same r139.1.Events r149.1 = r := ⟨_, rfl⟩
  replace hm := hm r156 hr
  rw [hr] at hp
  clear hr
  subst hp
  refine oPb T hS 7 [(2, Pt 3 0), (16, Pt 17 0), (19, I r149.2), (99, B (r156 && (r139.2 == r149.2)))] (sp := [94]) fun a hS => ?_
  rcases bft (r156 && (r139.2 == r149.2)) with hb | hb
  ·replace hS := hS.lit (t := 99) kr hb
   replace hm := hm.1 hb
   refine oPb T hS 3 [(2, Pt 3 0), (16, Pt 17 0), (99, B true), (102, B (r149.2 != 0))] fun a hS => ?_
   rcases bft (r149.2 != 0) with hb | hb
   ·replace hS := hS.lit (t := 102) kr hb
    replace hm := hm.1 hb
    refine oP T hS 7 ⟨[(109, B true)], []⟩ fun a hS => ?_
    refine op1 (call hS kr kr hb8 kr (fun _ _ => rfl) (k8 _ _) ?_)
    intro v157 a w158 X159 hE hp hS
    replace hO := hO.m2 hE
    obtain ⟨r160, hr⟩ : ∃ r, law41_awake = r := ⟨_, rfl⟩
    replace hm := hm r160 hr
    rw [hr] at hp
    clear hr
    subst hp
    refine ePb T hS [(4, B r160)] fun a hS => ?_
    refine wret ?_
    exact fin T hS hO (fun c => c) rfl (r := [.bool r160]) kr (fun X' hM hC => ⟨r160, hm, rfl⟩)
   replace hS := hS.lit (t := 102) kr hb
   replace hm := hm.2 hb
   refine oP T hS 3 ⟨[(99, B true), (102, B false), (104, V (.agg #[.int .i64 r139.1.Object.States, .int .i64 r139.1.Object.Kinds, .int .i64 r139.1.Object.Init, .slice a140 r139.1.Object.Rows.length c141])), (105, V (.agg #[.int .i64 o_.States, .int .i64 o_.Kinds, .int .i64 o_.Init, .slice a1 o_.Rows.length c1]))], []⟩ fun a hS => ?_
   refine op1 (call hS kr kr hb17 kr (fun _ _ => rfl) (k17 _ _ r139.1.Object o_ a140 c141 a1 c1 h142 h1) ?_)
   intro v161 a w162 X163 hE hp hS
   replace hO := hO.m2 hE
   replace h1 := h1.m1 hE
   replace h142 := h142.m1 hE
   obtain ⟨r164, hr⟩ : ∃ r, ref23_Same r139.1.Object o_ = r := ⟨_, rfl⟩
   replace hm := hm r164 hr
   rw [hr] at hp
   clear hr
   subst hp
   refine oPb T hS 3 [(109, B r164)] fun a hS => ?_
   rcases bft r164 with hb | hb
   ·replace hS := hS.lit (t := 109) kr hb
    replace hm := hm.1 hb
    refine op1 (call hS kr kr hb8 kr (fun _ _ => rfl) (k8 _ _) ?_)
    intro v165 a w166 X167 hE hp hS
    replace hO := hO.m2 hE
    obtain ⟨r168, hr⟩ : ∃ r, law41_awake = r := ⟨_, rfl⟩
    replace hm := hm r168 hr
    rw [hr] at hp
    clear hr
    subst hp
    refine ePb T hS [(4, B r168)] fun a hS => ?_
    refine wret ?_
    exact fin T hS hO (fun c => c) rfl (r := [.bool r168]) kr (fun X' hM hC => ⟨r168, hm, rfl⟩)
   replace hS := hS.lit (t := 109) kr hb
   replace hm := hm.2 hb
   refine ePb T hS [(4, B false)] fun a hS => ?_
   refine wret ?_
   exact fin T hS hO (fun c => c) rfl (r := [.bool false]) kr (fun X' hM hC => ⟨false, hm, rfl⟩)
  replace hS := hS.lit (t := 99) kr hb
  replace hm := hm.2 hb
  refine eP T hS ⟨[(4, B false)], []⟩ fun a hS => ?_
  refine wret ?_
  exact fin T hS hO (fun c => c) rfl (r := [.bool false]) kr (fun X' hM hC => ⟨false, hm, rfl⟩)
 replace hS := hS.lit (t := 88) kr hb
 replace hm := hm.2 hb
 refine eP T hS ⟨[(4, B false)], []⟩ fun a hS => ?_
 refine wret ?_
 exact fin T hS hO (fun c => c) rfl (r := [.bool false]) kr (fun X' hM hC => ⟨false, hm, rfl⟩)
end Go.Proofs.Ytojdelnnjhbgbaa
