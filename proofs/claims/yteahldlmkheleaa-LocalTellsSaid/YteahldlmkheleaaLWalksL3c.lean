/- Walks of the functions: each returns what its condition asks. -/
import Derived.Test.YteahldlmkheleaaLWalksS
set_option linter.all false
namespace Go.Proofs.Yteahldlmkheleaa
open Go Go.Sv
abbrev zL3c0 (col1 : Nat) : Nat -> Nat := fun c => (bif Nat.beq c 1009 then col1 else c)
abbrev zL3c1 (col1 : Nat) : Nat -> Nat := fun c => (bif Nat.beq c 1003 then col1 else c)
abbrev zL3c2 (i1 i2 i3 i4 m3 m4 : Nat) : List (Nat × Nat) := [(i1, 901), (i2, 902), (i3, 903), (i4, 904), (m3, 2003), (m4, 2004)]
abbrev zL3c3 (i1 m1 m4 m5 : Nat) : List (Nat × Nat) := [(i1, 901), (m1, 2001), (m4, 2004), (m5, 2005)]
set_option maxHeartbeats 1000000
theorem W85 (k24 : S24) (k83 : S83) (k94 : S94) (w0) (X0) (o_ : ai) (l_ : List aa) (state : Int) (done : List Bool) (a1) (c1) (a2) (c2) (a3) (c3) (col1) (Q : (List ah) -> Prop) (hm : VC85 o_ l_ state done Q) (h1 : RS aw w0 X0 a1 o_.Rows c1) (h2 : RS aq w0 X0 a2 l_ c2) (h3 : RS cB w0 X0 a3 done c3) :
  Ret Try.prog 85 #[.agg #[.int .i64 o_.ao, .int .i64 o_.av, .int .i64 o_.aC, .slice a1 o_.Rows.length c1], .slice a2 l_.length c2, .int .i64 state, .slice a3 done.length c3] aF w0 X0 (fun w X' v => ∃ r, Q r /\ ∃ ra1 rc1, v = .slice ra1 r.length rc1 /\ OS au 100 w X' col1 ra1 r rc1) := by
 unfold VC85 at hm
 replace hm := hm (h1.sm kr)
 replace hm := hm (h2.sm kr)
 replace hm := hm (h3.sm kr)
 refine enter Try.func85 rfl (vals := [.agg #[.int .i64 o_.ao, .int .i64 o_.av, .int .i64 o_.aC, .slice a1 o_.Rows.length c1], .slice a2 l_.length c2, .int .i64 state, .slice a3 done.length c3]) kr ?_
 intro Z a hS hO hM
 replace h1 := h1.m0 hM
 replace h2 := h2.m0 hM
 replace h3 := h3.m0 hM
 refine rM T hS ⟨[(1, Sl a2 l_ c2), (2, I state), (3, Sl a3 done c3), (4, Pt 5 0)], [(5, (42, (cO o_ a1 c1)))]⟩ fun Z a w180 X181 hS hE hr => ?_
 replace hO := hO.m2 hE
 replace h1 := h1.m1 hE
 replace h2 := h2.m1 hE
 replace h3 := h3.m1 hE
 clear hE hr
 refine ba ?_
 refine bb ?_
 refine oPb T hS 1 [(1, Sl a2 l_ c2), (2, I state), (3, Sl a3 done c3), (4, Pt 5 0), (18, V (.agg #[.int .i64 o_.ao, .int .i64 o_.av, .int .i64 o_.aC, .slice a1 o_.Rows.length c1]))] fun a hS => ?_
 obtain ⟨hq, hm⟩ := hm
 refine op1 (call hS kr kr hb24 kr (fun _ _ => rfl) (k24 _ _ o_ a1 c1 hq h1) ?_)
 intro v101 a w102 X103 hE hp hS
 replace hO := hO.m2 hE
 replace h1 := h1.m1 hE
 replace h2 := h2.m1 hE
 replace h3 := h3.m1 hE
 obtain ⟨r104, hr⟩ : ∃ r, bd o_ = r := ⟨_, rfl⟩
 replace hm := hm r104 hr
 rw [hr] at hp
 clear hr
 subst hp
 refine ePb T hS [(1, Sl a2 l_ c2), (2, I state), (3, Sl a3 done c3), (4, Pt 5 0), (10, I r104.2)] fun a hS => ?_
 refine rPb T hS [(1, Sl a2 l_ c2), (2, I state), (3, Sl a3 done c3), (4, Pt 5 0), (23, B (r104.2 != 0))] fun a hS => ?_
 refine aG hS (b := (r104.2 != 0)) kr (fun hb => ?_) fun hb => ?_
 ·replace hm := hm.1 hb
  refine rP T hS ⟨[(8, V (.slice none 0 0))], []⟩ fun a hS => ?_
  refine aU ?_
  exact fin T hS hO (fun c => c) rfl (r := [.slice none 0 0]) kr (fun X' hM hC => ⟨[], hm, none, 0, rfl, OS.nil _ _ _ _ _⟩)
 replace hm := hm.2 hb
 refine aJ ?_
 refine rPb T hS [(1, Sl a2 l_ c2), (2, I state), (3, Sl a3 done c3), (4, Pt 5 0), (11, V (.slice none 0 0))] fun a hS => ?_
 refine bU (fun a w => ∃ (Z : Nat -> Nat) (X : Nat -> Nat) (y105 : List ah) (a106 : Option Addr) (c107 : Nat), VC85_J1 Q y105 /\ St Try.f85.ntmps ⟨[(11, Sl a106 y105 c107)], []⟩ Z a w X /\ Old w0 X0 w X /\ OS au 100 w X 1009 a106 y105 c107) ?_ ?_
 ·refine bb ?_
  refine oPb T hS 2 [(1, Sl a2 l_ c2), (2, I state), (4, Pt 5 0), (11, V (.slice none 0 0)), (24, Sl a2 l_ c2), (25, Sl a3 done c3)] fun a hS => ?_
  obtain ⟨hq, hm⟩ := hm
  refine op1 (call hS kr kr hb94 kr (fun _ _ => rfl) (k94 _ _ l_ done a2 c2 a3 c3 hq h2 h3) ?_)
  intro v109 a w110 X111 hE hp hS
  replace hO := hO.m2 hE
  replace h1 := h1.m1 hE
  replace h2 := h2.m1 hE
  replace h3 := h3.m1 hE
  obtain ⟨a113, c114, hp, h115⟩ := hp
  obtain ⟨r112, hr⟩ : ∃ r, dk l_ done = r := ⟨_, rfl⟩
  replace hm := hm r112 hr
  rw [hr] at hp h115
  clear hr
  subst hp
  replace hm := hm (h115.sm kr)
  refine ePb T hS [(1, Sl a2 l_ c2), (2, I state), (4, Pt 5 0), (11, V (.slice none 0 0)), (26, Sl a113 r112 c114), (27, I (lN r112)), (28, I 0)] fun a hS => ?_
  refine aO ?_
  obtain ⟨I1, μ1, hm0, hm⟩ := hm
  refine b8 (σ := (List ah) × Int) (fun s a w => ∃ Z X a118 c119, I1 s.1 s.2 /\ St Try.f85.ntmps ⟨[(1, Sl a2 l_ c2), (2, I state), (4, Pt 5 0), (11, Sl a118 s.1 c119), (26, Sl a113 r112 c114), (27, I (lN r112)), (28, I s.2)], [(5, (42, (cO o_ a1 c1)))]⟩ Z a w X /\ Old w0 X0 w X /\ RS aq w X a2 l_ c2 /\ OS au 100 w X 1009 a118 s.1 c119 /\ RS tI w X a113 r112 c114 /\ RS aw w X a1 o_.Rows c1) (fun s => μ1 s.1 s.2) (⟨[], 0⟩) ?_ ?_
  ·exact ⟨Z, _, none, 0, hm0, hS.sl _, hO, h2, (OS.nil _ _ _ _ _), h115, h1⟩
  rintro ⟨y117, y122⟩ a w177 ⟨Z, X176, a118, c119, hI, hS, hO, h116, h120, h121, h123⟩
  replace hm := hm y117 y122 hI
  clear hI hm0
  refine rPb T hS [(1, Sl a2 l_ c2), (2, I state), (4, Pt 5 0), (11, Sl a118 y117 c119), (26, Sl a113 r112 c114), (27, I (lN r112)), (28, I y122), (29, B (decide (y122 < (lN r112))))] fun a hS => ?_
  refine ba ?_
  refine aG hS (b := decide (y122 < (lN r112))) kr (fun hb => ?_) fun hb => ?_
  ·replace hm := hm.1 hb
   refine aJ ?_
   refine bU (fun a w => ∃ (Z : Nat -> Nat) (X : Nat -> Nat) (y125 : List ah) (a126 : Option Addr) (c127 : Nat), VC85_J2 I1 μ1 y117 y122 y125 /\ St Try.f85.ntmps ⟨[(1, Sl a2 l_ c2), (2, I state), (4, Pt 5 0), (11, Sl a126 y125 c127), (26, Sl a113 r112 c114), (27, I (lN r112)), (28, I y122)], [(5, (42, (cO o_ a1 c1)))]⟩ Z a w X /\ Old w0 X0 w X /\ RS aq w X a2 l_ c2 /\ OS au 100 w X 1009 a126 y125 c127 /\ RS tI w X a113 r112 c114 /\ RS aw w X a1 o_.Rows c1) ?_ ?_
   ·refine aO ?_
    refine bb ?_
    obtain ⟨hq, hm⟩ := hm
    refine op1 (index (e := 3) (k := .i64) T hS kr kr kr kr h121 kr kr hq.1 hq.2 ?_)
    intro A131 a h132 hS
    refine op1 (ec T hS kr kr kr h132 rfl kr ?_)
    intro v133 a hv hS
    cases hv
    refine ePb T hS [(1, Sl a2 l_ c2), (2, I state), (4, Pt 5 0), (11, Sl a118 y117 c119), (13, I (gi r112 y122)), (26, Sl a113 r112 c114), (27, I (lN r112)), (28, I y122)] fun a hS => ?_
    refine ct [5] mixed hS ?_
    intro w134 X135 hS hE hD hH
    replace hO := hO.m2 hE
    replace h116 := h116.m1 hE
    replace h120 := h120.m2 hE
    replace h121 := h121.m1 hE
    replace h123 := h123.m1 hE
    refine tkb T [0, 1, 2, 3] [5] hS hH #[true, true, true, true, false, false, false, false, false, false, false, false, false, false, false] 11 [(1, Sl a2 l_ c2), (2, I state), (4, Pt 5 0), (11, Sl a118 y117 c119), (13, I (gi r112 y122)), (26, Sl a113 r112 c114), (27, I (lN r112)), (28, I y122), (33, V (.agg #[.int .i64 o_.ao, .int .i64 o_.av, .int .i64 o_.aC, .slice a1 o_.Rows.length c1])), (34, I state), (35, Sl a2 l_ c2), (36, I (gi r112 y122))] fun a hS => ?_
    obtain ⟨hq, hm⟩ := hm
    refine cD (e := 80) (k := .i64) T 4 hS kr kr kr (by rfl) kr hH kr kr h116 kr kr hq.1 hq.2 ?_
    intro A136 a h137 hS
    have h137b := h137.here
    refine db (off := 1) (fsz := 1) (ft := 3) (TF := tI) (y := (gi l_ (gi r112 y122)).Kind) 5 T hS kr kr kr (by rfl) kr hH kr h137 kr kr kr (fun cs h => jz h) ?_
    intro A138 a h139 hbl hS
    have h139b := h137b
    rw [← hbl] at h139b
    clear hbl
    refine dB T 6 hS kr kr kr (by rfl) kr hH kr h139 h139b rfl kr ?_
    intro v140 a hv hS
    cases hv
    refine only 7 kr (by rfl) (call hS kr kr hb83 kr (fun _ _ => rfl) (k83 _ _ o_ state ((gi l_ (gi r112 y122)).Kind) a1 c1 h123) ?_)
    intro v141 a w142 X143 hE hp hS
    replace hO := hO.m2 hE
    replace hD := hD.ev hE rfl
    replace h116 := h116.m1 hE
    replace h120 := h120.m2 hE
    replace h121 := h121.m1 hE
    replace h123 := h123.m1 hE
    replace h137 := h137.m1 hE
    replace h139 := h139.m1 hE
    obtain ⟨r144, hr⟩ : ∃ r, bJ o_ state ((gi l_ (gi r112 y122)).Kind) = r := ⟨_, rfl⟩
    replace hm := hm r144 hr
    rw [hr] at hp
    clear hr
    subst hp
    replace hS := hS.slb [(1, Sl a2 l_ c2), (2, I state), (4, Pt 5 0), (11, Sl a118 y117 c119), (13, I (gi r112 y122)), (26, Sl a113 r112 c114), (27, I (lN r112)), (28, I y122), (33, V (.agg #[.int .i64 o_.ao, .int .i64 o_.av, .int .i64 o_.aC, .slice a1 o_.Rows.length c1])), (34, I state), (35, Sl a2 l_ c2), (36, I (gi r112 y122)), (37, V (.pointer (some A136))), (38, V (.pointer (some A138))), (39, I ((gi l_ (gi r112 y122)).Kind)), (40, V (.tuple #[.int .i64 r144.1, .int .i64 r144.2.1, .bool r144.2.2]))]
    refine bX (bl.of hS (bks := [5]) kr hD) ?_
    intro hH
    refine tkb T [8, 9, 10, 11, 12, 13, 14] [5] hS hH (tts 15) 0 [(1, Sl a2 l_ c2), (2, I state), (4, Pt 5 0), (11, Sl a118 y117 c119), (13, I (gi r112 y122)), (15, I r144.2.1), (16, B r144.2.2), (26, Sl a113 r112 c114), (27, I (lN r112)), (28, I y122)] fun a hS => ?_
    refine aM kr ?_
    replace hS := hS.slb [(1, Sl a2 l_ c2), (2, I state), (4, Pt 5 0), (11, Sl a118 y117 c119), (13, I (gi r112 y122)), (15, I r144.2.1), (16, B r144.2.2), (26, Sl a113 r112 c114), (27, I (lN r112)), (28, I y122)]
    refine bU (fun a w => ∃ (Z : Nat -> Nat) (X : Nat -> Nat) (y146 : List ah) (y151 : Bool) (a147 : Option Addr) (c148 : Nat), VC85_J3 r112 I1 μ1 y117 y122 r144 y146 y151 /\ St Try.f85.ntmps ⟨[(1, Sl a2 l_ c2), (2, I state), (4, Pt 5 0), (11, Sl a147 y146 c148), (13, I (gi r112 y122)), (15, I r144.2.1), (26, Sl a113 r112 c114), (27, I (lN r112)), (28, I y122), (61, B y151)], [(5, (42, (cO o_ a1 c1)))]⟩ Z a w X /\ Old w0 X0 w X /\ RS aq w X a2 l_ c2 /\ OS au 100 w X 1009 a147 y146 c148 /\ RS tI w X a113 r112 c114 /\ RS aw w X a1 o_.Rows c1) ?_ ?_
    ·refine region ?_
     refine oPb T hS 2 [(1, Sl a2 l_ c2), (2, I state), (4, Pt 5 0), (11, Sl a118 y117 c119), (13, I (gi r112 y122)), (15, I r144.2.1), (26, Sl a113 r112 c114), (27, I (lN r112)), (28, I y122), (45, B r144.2.2)] fun a hS => ?_
     rcases bft r144.2.2 with hb | hb
     ·replace hS := hS.lit (t := 45) kr hb
      replace hm := hm.1 hb
      refine oPb T hS 2 [(1, Sl a2 l_ c2), (2, I state), (4, Pt 5 0), (11, Sl a118 y117 c119), (13, I (gi r112 y122)), (15, I r144.2.1), (26, Sl a113 r112 c114), (27, I (lN r112)), (28, I y122), (45, B true), (46, Sl a2 l_ c2), (47, I (gi r112 y122))] fun a hS => ?_
      obtain ⟨hq, hm⟩ := hm
      refine op1 (index (e := 80) (k := .i64) T hS kr kr kr kr h116 kr kr hq.1 hq.2 ?_)
      intro A162 a h163 hS
      refine op1 (fa (off := 3) (fsz := 1) (ft := 3) (TF := tI) (y := (gi l_ (gi r112 y122)).End) T hS kr kr kr h163 kr kr kr (fun cs h => mB h) ?_)
      intro A164 a h165 hS
      refine op1 (ec T hS kr kr kr h165 rfl kr ?_)
      intro v166 a hv hS
      cases hv
      refine oPb T hS 2 [(1, Sl a2 l_ c2), (2, I state), (4, Pt 5 0), (11, Sl a118 y117 c119), (13, I (gi r112 y122)), (15, I r144.2.1), (26, Sl a113 r112 c114), (27, I (lN r112)), (28, I y122), (45, B true), (52, B (((gi l_ (gi r112 y122)).End) == (-1)))] fun a hS => ?_
      rcases bft (((gi l_ (gi r112 y122)).End) == (-1)) with hb | hb
      ·replace hS := hS.lit (t := 52) kr hb
       replace hm := hm.1 hb
       refine ePb T hS [(1, Sl a2 l_ c2), (2, I state), (4, Pt 5 0), (11, Sl a118 y117 c119), (13, I (gi r112 y122)), (15, I r144.2.1), (26, Sl a113 r112 c114), (27, I (lN r112)), (28, I y122), (61, B true)] fun a hS => ?_
       exact ⟨Z, _, y117, true, a118, c119, hm, hS.sl _, hO, h116, h120, h121, h123⟩
      replace hS := hS.lit (t := 52) kr hb
      replace hm := hm.2 hb
      refine oPb T hS 2 [(1, Sl a2 l_ c2), (2, I state), (4, Pt 5 0), (11, Sl a118 y117 c119), (13, I (gi r112 y122)), (15, I r144.2.1), (26, Sl a113 r112 c114), (27, I (lN r112)), (28, I y122), (45, B true), (52, B false), (53, Sl a2 l_ c2), (54, I (gi r112 y122))] fun a hS => ?_
      obtain ⟨hq, hm⟩ := hm
      refine op1 (index (e := 80) (k := .i64) T hS kr kr kr kr h116 kr kr hq.1 hq.2 ?_)
      intro A167 a h168 hS
      refine op1 (fa (off := 4) (fsz := 1) (ft := 3) (TF := tI) (y := (gi l_ (gi r112 y122)).Result) T hS kr kr kr h168 kr kr kr (fun cs h => mA h) ?_)
      intro A169 a h170 hS
      refine op1 (ec T hS kr kr kr h170 rfl kr ?_)
      intro v171 a hv hS
      cases hv
      refine ePb T hS [(1, Sl a2 l_ c2), (2, I state), (4, Pt 5 0), (11, Sl a118 y117 c119), (13, I (gi r112 y122)), (15, I r144.2.1), (26, Sl a113 r112 c114), (27, I (lN r112)), (28, I y122), (61, B (((gi l_ (gi r112 y122)).Result) == r144.2.1))] fun a hS => ?_
      exact ⟨Z, _, y117, (((gi l_ (gi r112 y122)).Result) == r144.2.1), a118, c119, hm, hS.sl _, hO, h116, h120, h121, h123⟩
     replace hS := hS.lit (t := 45) kr hb
     replace hm := hm.2 hb
     refine ePb T hS [(1, Sl a2 l_ c2), (2, I state), (4, Pt 5 0), (11, Sl a118 y117 c119), (13, I (gi r112 y122)), (15, I r144.2.1), (26, Sl a113 r112 c114), (27, I (lN r112)), (28, I y122), (61, B false)] fun a hS => ?_
     exact ⟨Z, _, y117, false, a118, c119, hm, hS.sl _, hO, h116, h120, h121, h123⟩
    rintro a w173 ⟨Z, X172, y146, y151, a147, c148, hm, hS, hO, h145, h149, h150, h152⟩
    unfold VC85_J3 at hm
    refine aG hS (b := y151) kr (fun hb => ?_) fun hb => ?_
    ·replace hm := hm.1 hb
     refine region ?_
     refine oPb T hS 4 [(1, Sl a2 l_ c2), (2, I state), (4, Pt 5 0), (11, Sl a147 y146 c148), (26, Sl a113 r112 c114), (27, I (lN r112)), (28, I y122), (62, Sl a147 y146 c148), (65, V (.agg #[.int .i64 (gi r112 y122), .int .i64 r144.2.1]))] fun a hS => ?_
     refine op1 (lit (E := 100) (col := 0) (T := au) (vals := [.agg #[.int .i64 (gi r112 y122), .int .i64 r144.2.1]]) (ys := [(⟨gi r112 y122, r144.2.1⟩ : ah)]) T hS kr kr kr kr (by exact ⟨rfl, trivial⟩) rfl kr kr kr kr ?_)
     intro b153 a w154 X155 hE h156 hN hS
     clear hN
     replace hO := hO.m2 hE
     replace h145 := h145.m1 hE
     replace h149 := h149.m2 hE
     replace h150 := h150.m1 hE
     replace h152 := h152.m1 hE
     replace h156 := h156.rs0
     obtain ⟨hq, hm⟩ := hm
     obtain ⟨news, hN⟩ := h156.src
     refine op1 (append (E := 100) (T := au) (col := 1009) (xs := y146) T hS kr kr kr kr h149 hN kr kr kr kr hq ?_)
     intro a160 c161 a w157 X158 hE h159 hS
     clear hq hN
     clear h149
     replace hO := hO.m2 hE
     replace h145 := h145.m1 hE
     replace h150 := h150.m1 hE
     replace h152 := h152.m1 hE
     replace h156 := h156.m1 hE
     refine ePb T hS [(1, Sl a2 l_ c2), (2, I state), (4, Pt 5 0), (11, Sl a160 (y146 ++ [(⟨gi r112 y122, r144.2.1⟩ : ah)]) c161), (26, Sl a113 r112 c114), (27, I (lN r112)), (28, I y122)] fun a hS => ?_
     exact ⟨Z, _, y146 ++ [(⟨gi r112 y122, r144.2.1⟩ : ah)], a160, c161, hm, hS.sl _, hO, h145, h159, h150, h152⟩
    replace hm := hm.2 hb
    refine aJ ?_
    exact ⟨Z, _, y146, a147, c148, hm, hS.sl _, hO, h145, h149, h150, h152⟩
   rintro a w175 ⟨Z, X174, y125, a126, c127, hm, hS, hO, h124, h128, h129, h130⟩
   unfold VC85_J2 at hm
   refine region (ePb T hS [(1, Sl a2 l_ c2), (2, I state), (4, Pt 5 0), (11, Sl a126 y125 c127), (26, Sl a113 r112 c114), (27, I (lN r112)), (28, I (wR (y122 + 1)))] fun a hS => ?_)
   exact ⟨⟨y125, wR (y122 + 1)⟩, ⟨Z, _, a126, c127, hm.1, hS.sl _, hO, h124, h128, h129, h130⟩, hm.2⟩
  replace hm := hm.2 hb
  refine b0 (by rfl) ?_
  exact ⟨Z, _, y117, a118, c119, hm, hS.sl _, hO, h120⟩
 rintro a w179 ⟨Z, X178, y105, a106, c107, hm, hS, hO, h108⟩
 unfold VC85_J1 at hm
 refine rPb T hS [(8, Sl a106 y105 c107)] fun a hS => ?_
 refine aU ?_
 exact fin T hS hO (zL3c0 col1) rfl (r := [.slice a106 y105.length c107]) kr (fun X' hM hC => ⟨y105, hm, a106, c107, rfl, (OS.out (f := (zL3c0 col1)) h108 hM hC kr)⟩)
theorem C85 (k24 : S24) (k83 : S83) (k94 : S94) (v : ∀ (o_ : ai) (l_ : List aa) (state : Int) (done : List Bool), nr o_ l_ state done -> VC85 o_ l_ state done (fun r => r = bm o_ l_ state done)) : S85 := by
 intro w X o_ l_ state done a1 c1 a2 c2 a3 c3 col1  hp h1 h2 h3
 refine (W85 k24 k83 k94 w X o_ l_ state done a1 c1 a2 c2 a3 c3 col1  _ (v o_ l_ state done hp) h1 h2 h3).mono ?_
 rintro _ _ _ _ ⟨r, rfl, h⟩
 exact h
theorem W67 (k24 : S24) (k79 : S79) (w0) (X0) (o_ : ai) (l_ : List aa) (most : Int) (a1) (c1) (a2) (c2) (Q : Int -> Prop) (hm : VC67 o_ l_ most Q) (h1 : RS aw w0 X0 a1 o_.Rows c1) (h2 : RS aq w0 X0 a2 l_ c2) :
  Ret Try.prog 67 #[.agg #[.int .i64 o_.ao, .int .i64 o_.av, .int .i64 o_.aC, .slice a1 o_.Rows.length c1], .slice a2 l_.length c2, .int .i64 most] aF w0 X0 (fun w X' v => ∃ r, Q r /\ v = .int .i64 r) := by
 unfold VC67 at hm
 replace hm := hm (h1.sm kr)
 replace hm := hm (h2.sm kr)
 refine enter Try.func67 rfl (vals := [.agg #[.int .i64 o_.ao, .int .i64 o_.av, .int .i64 o_.aC, .slice a1 o_.Rows.length c1], .slice a2 l_.length c2, .int .i64 most]) kr ?_
 intro Z a hS hO hM
 replace h1 := h1.m0 hM
 replace h2 := h2.m0 hM
 refine rM T hS ⟨[(1, Sl a2 l_ c2), (2, I most), (3, Pt 4 0)], [(4, (42, (cO o_ a1 c1)))]⟩ fun Z a w109 X110 hS hE hr => ?_
 replace hO := hO.m2 hE
 replace h1 := h1.m1 hE
 replace h2 := h2.m1 hE
 clear hE hr
 refine bb ?_
 refine oP T hS 1 ⟨[(1, Sl a2 l_ c2), (2, I most), (12, V (.agg #[.int .i64 o_.ao, .int .i64 o_.av, .int .i64 o_.aC, .slice a1 o_.Rows.length c1]))], []⟩ fun a hS => ?_
 obtain ⟨hq, hm⟩ := hm
 refine op1 (call hS kr kr hb24 kr (fun _ _ => rfl) (k24 _ _ o_ a1 c1 hq h1) ?_)
 intro v101 a w102 X103 hE hp hS
 replace hO := hO.m2 hE
 replace h1 := h1.m1 hE
 replace h2 := h2.m1 hE
 obtain ⟨r104, hr⟩ : ∃ r, bd o_ = r := ⟨_, rfl⟩
 replace hm := hm r104 hr
 rw [hr] at hp
 clear hr
 subst hp
 refine ePb T hS [(1, Sl a2 l_ c2), (2, I most), (8, I r104.2)] fun a hS => ?_
 refine bb ?_
 refine oPb T hS 1 [(1, Sl a2 l_ c2), (2, I most), (8, I r104.2), (17, Sl a2 l_ c2)] fun a hS => ?_
 refine op1 (call hS kr kr hb79 kr (fun _ _ => rfl) (k79 _ _ l_ a2 c2 h2) ?_)
 intro v105 a w106 X107 hE hp hS
 replace hO := hO.m2 hE
 replace h2 := h2.m1 hE
 obtain ⟨r108, hr⟩ : ∃ r, b6 l_ = r := ⟨_, rfl⟩
 replace hm := hm r108 hr
 rw [hr] at hp
 clear hr
 subst hp
 refine ePb T hS [(1, Sl a2 l_ c2), (2, I most), (8, I r104.2), (10, I r108.2)] fun a hS => ?_
 refine ba ?_
 refine aO ?_
 refine rPb T hS [(1, Sl a2 l_ c2), (2, I most), (21, B ((r104.2 != 0) || (r108.2 != 0)))] (sp := [24]) fun a hS => ?_
 refine aG hS (b := ((r104.2 != 0) || (r108.2 != 0))) kr (fun hb => ?_) fun hb => ?_
 ·replace hm := hm.1 hb
  refine rPb T hS [(6, I 2)] fun a hS => ?_
  refine aU ?_
  exact fin T hS hO (fun c => c) rfl (r := [.int .i64 2]) kr (fun X' hM hC => ⟨2, hm, rfl⟩)
 replace hm := hm.2 hb
 refine rPb T hS [(28, B (decide ((lN l_) > most)))] fun a hS => ?_
 refine aG hS (b := decide ((lN l_) > most)) kr (fun hb => ?_) fun hb => ?_
 ·replace hm := hm.1 hb
  refine rPb T hS [(6, I 3)] fun a hS => ?_
  refine aU ?_
  exact fin T hS hO (fun c => c) rfl (r := [.int .i64 3]) kr (fun X' hM hC => ⟨3, hm, rfl⟩)
 replace hm := hm.2 hb
 refine aJ ?_
 refine rPb T hS [(6, I 0)] fun a hS => ?_
 refine aU ?_
 exact fin T hS hO (fun c => c) rfl (r := [.int .i64 0]) kr (fun X' hM hC => ⟨0, hm, rfl⟩)
theorem C67 (k24 : S24) (k79 : S79) (v : ∀ (o_ : ai) (l_ : List aa) (most : Int), nx o_ l_ most -> VC67 o_ l_ most (fun r => r = bV o_ l_ most)) : S67 := by
 intro w X o_ l_ most a1 c1 a2 c2   hp h1 h2
 refine (W67 k24 k79 w X o_ l_ most a1 c1 a2 c2   _ (v o_ l_ most hp) h1 h2).mono ?_
 rintro _ _ _ _ ⟨r, rfl, h⟩
 exact h
theorem W84 (w0) (X0) (s_ : List ah) (a1) (c1) (col1) (Q : (List ah) -> Prop) (hm : VC84 s_ Q) (h1 : RS au w0 X0 a1 s_ c1) :
  Ret Try.prog 84 #[.slice a1 s_.length c1] aF w0 X0 (fun w X' v => ∃ r, Q r /\ ∃ ra1 rc1, v = .slice ra1 r.length rc1 /\ OS au 100 w X' col1 ra1 r rc1) := by
 unfold VC84 at hm
 replace hm := hm (h1.sm kr)
 refine enter Try.func84 rfl (vals := [.slice a1 s_.length c1]) kr ?_
 intro Z a hS hO hM
 replace h1 := h1.m0 hM
 refine rPb T hS [(0, Sl a1 s_ c1)] fun a hS => ?_
 refine ba ?_
 refine bb ?_
 refine oPb T hS 1 [(0, Sl a1 s_ c1), (3, Sl a1 s_ c1)] fun a hS => ?_
 obtain ⟨b101, hb102⟩ : ∃ q : Bool, a1.isNone = q := ⟨_, rfl⟩
 replace hm := hm b101 (h1.qg hb102)
 refine op1 (pO (e := 100) (m := s_.length) (c := c1) hS kr kr kr kr Try.underlying58 hb102 ?_)
 intro a hS
 clear hb102
 refine eO ?_
 refine aG hS (b := b101) kr (fun hb => ?_) fun hb => ?_
 ·replace hm := hm.1 hb
  refine rPb T hS [(2, V (.slice none 0 0))] fun a hS => ?_
  refine aU ?_
  exact fin T hS hO (fun c => c) rfl (r := [.slice none 0 0]) kr (fun X' hM hC => ⟨[], hm, none, 0, rfl, OS.nil _ _ _ _ _⟩)
 replace hm := hm.2 hb
 refine aJ ?_
 refine bb ?_
 refine op1 (lit (E := 100) (col := 1003) (T := au) (vals := []) (ys := ([] : List ah)) T hS kr kr kr kr trivial rfl kr kr kr kr ?_)
 intro b103 a w104 X105 hE h106 hN hS
 clear hN
 replace hO := hO.m2 hE
 replace h1 := h1.m1 hE
 refine oPb T hS 1 [(5, Sl (some ⟨b103, 0, none⟩) ([] : List ah) 0), (6, Sl a1 s_ c1)] fun a hS => ?_
 obtain ⟨hq, hm⟩ := hm
 obtain ⟨news, hN⟩ := h1.src
 refine op1 (append (E := 100) (T := au) (col := 1003) (xs := ([] : List ah)) T hS kr kr kr kr h106 hN kr kr kr kr hq ?_)
 intro a110 c111 a w107 X108 hE h109 hS
 clear hq hN
 clear h106
 replace hO := hO.m2 hE
 replace h1 := h1.m1 hE
 refine ePb T hS [(2, Sl a110 (([] : List ah) ++ s_) c111)] fun a hS => ?_
 refine aU ?_
 exact fin T hS hO (zL3c1 col1) rfl (r := [.slice a110 (([] : List ah) ++ s_).length c111]) kr (fun X' hM hC => ⟨(([] : List ah) ++ s_), hm, a110, c111, rfl, (OS.out (f := (zL3c1 col1)) h109 hM hC kr)⟩)
theorem C84 (v : ∀ (s_ : List ah), nw s_ -> VC84 s_ (fun r => r = bA s_)) : S84 := by
 intro w X s_ a1 c1 col1  hp h1
 refine (W84 w X s_ a1 c1 col1  _ (v s_ hp) h1).mono ?_
 rintro _ _ _ _ ⟨r, rfl, h⟩
 exact h
theorem W81 (w0) (X0) (state : Int) (cap1 : aP) (a1) (c1) (a2) (c2) (a3) (c3) (r4) (m4) (b1) (i1) (Q : bC -> Prop) (hm : VC81 state cap1 Q) (h1 : RS aw w0 X0 a1 cap1.o.Rows c1) (h2 : RS aq w0 X0 a2 cap1.l c2) (h3 : RS cB w0 X0 a3 cap1.done c3) (h4 : OMS aI tI false w0 X0 m4 r4 cap1.failed) (hc1 : Cell w0 X0 b1 i1 144 [.int .i64 cap1.o.ao, .int .i64 cap1.o.av, .int .i64 cap1.o.aC, .slice a1 cap1.o.Rows.length c1, .slice a2 cap1.l.length c2, .slice a3 cap1.done.length c3, .map (some r4)]) (hA : cH [i1, m4]) :
  Ret Try.prog 81 #[.pointer (some ⟨b1, 0, none⟩), .int .i64 state] (pR [i1, m4]) w0 X0 (fun w X' v => ∃ r, Q r /\ v = .agg #[.int .u32 r.done, .int .i64 r.state] /\ Cell w X' b1 i1 144 [.int .i64 cap1.o.ao, .int .i64 cap1.o.av, .int .i64 cap1.o.aC, .slice a1 cap1.o.Rows.length c1, .slice a2 cap1.l.length c2, .slice a3 cap1.done.length c3, .map (some r4)] /\ OMS aI tI false w X' m4 r4 cap1.failed) := by
 unfold VC81 at hm
 replace hm := hm (h1.sm kr)
 replace hm := hm (h2.sm kr)
 replace hm := hm (h3.sm kr)
 refine dI Try.func81 rfl (cy [(i1, 901), (m4, 2004)]) (fun id => (bif Nat.beq id 901 then b1 else 0)) (args := [Pt 901 0, I state]) (bxs := [(901, (144, [I cap1.o.ao, I cap1.o.av, I cap1.o.aC, Sl a1 cap1.o.Rows c1, Sl a2 cap1.l c2, Sl a3 cap1.done c3, V (.map (some r4))]))]) kr rfl (a8.cons kr (hc1.map (bn 0 hA.1 rfl)) a8.nil) (dA (fun q hq => (hA.2 q.1 (List.mem_map.2 ⟨q, hq, rfl⟩)).1)) ?_
 intro a hS hO hM
 have hP : Pin [(901, b1)] (fun id => (bif Nat.beq id 901 then b1 else 0)) := by intro q hq; simp at hq; rcases hq with rfl <;> rfl
 generalize (fun id => (bif Nat.beq id 901 then b1 else 0)) = Z at hS hP
 clear hc1
 replace h1 := h1.m0 hM
 replace h2 := h2.m0 hM
 replace h3 := h3.m0 hM
 replace h4 := h4.map (f := cy [(i1, 901), (m4, 2004)]) (bn 1 hA.1 rfl) hM
 refine rM T hS ⟨[(0, Pt 901 0), (1, I state), (4, Pt 5 0)], [(5, (147, [V (.int .u32 0), I 0])), (901, (144, [I cap1.o.ao, I cap1.o.av, I cap1.o.aC, Sl a1 cap1.o.Rows c1, Sl a2 cap1.l c2, Sl a3 cap1.done c3, V (.map (some r4))]))]⟩ fun Z a w138 X139 hS hE hr => ?_
 replace hO := hO.m2 hE
 replace h1 := h1.m1 hE
 replace h2 := h2.m1 hE
 replace h3 := h3.m1 hE
 replace h4 := h4.m2 hE
 replace hP := hP.mv hr kr
 clear hE hr
 refine rM T hS ⟨[(0, Pt 901 0), (4, Pt 5 0), (5, Pt 6 0)], [(5, (147, [V (.int .u32 0), I 0])), (6, (147, [V (.int .u32 0), I state])), (901, (144, [I cap1.o.ao, I cap1.o.av, I cap1.o.aC, Sl a1 cap1.o.Rows c1, Sl a2 cap1.l c2, Sl a3 cap1.done c3, V (.map (some r4))]))]⟩ fun Z a w136 X137 hS hE hr => ?_
 replace hO := hO.m2 hE
 replace h1 := h1.m1 hE
 replace h2 := h2.m1 hE
 replace h3 := h3.m1 hE
 replace h4 := h4.m2 hE
 replace hP := hP.mv hr kr
 clear hE hr
 refine bU (fun a w => ∃ (Z : Nat -> Nat) (X : Nat -> Nat) (y101 : Int) (y102 : Int), VC81_J1 Q y101 y102 /\ St Try.f81.ntmps ⟨[(4, Pt 5 0), (5, Pt 6 0)], [(5, (147, [V (.int .u32 0), I 0])), (6, (147, [V (.int .u32 y101), I y102])), (901, (144, [I cap1.o.ao, I cap1.o.av, I cap1.o.aC, Sl a1 cap1.o.Rows c1, Sl a2 cap1.l c2, Sl a3 cap1.done c3, V (.map (some r4))]))]⟩ Z a w X /\ dR (cy [(i1, 901), (m4, 2004)]) w0 X0 w X /\ Pin [(901, b1)] Z /\ RS aw w X a1 cap1.o.Rows c1 /\ RS aq w X a2 cap1.l c2 /\ RS cB w X a3 cap1.done c3 /\ OMS aI tI false w X 2004 r4 cap1.failed) ?_ ?_
 ·refine rPb T hS [(4, Pt 5 0), (5, Pt 6 0), (13, Sl a3 cap1.done c3), (14, I (lN cap1.done)), (15, I 0)] fun a hS => ?_
  refine aO ?_
  obtain ⟨I1, μ1, hm0, hm⟩ := hm
  refine b8 (σ := Int × Int × Int) (fun s a w => ∃ Z X, I1 s.1 s.2.1 s.2.2 /\ St Try.f81.ntmps ⟨[(4, Pt 5 0), (5, Pt 6 0), (13, Sl a3 cap1.done c3), (14, I (lN cap1.done)), (15, I s.1)], [(5, (147, [V (.int .u32 0), I 0])), (6, (147, [V (.int .u32 s.2.1), I s.2.2])), (901, (144, [I cap1.o.ao, I cap1.o.av, I cap1.o.aC, Sl a1 cap1.o.Rows c1, Sl a2 cap1.l c2, Sl a3 cap1.done c3, V (.map (some r4))]))]⟩ Z a w X /\ dR (cy [(i1, 901), (m4, 2004)]) w0 X0 w X /\ Pin [(901, b1)] Z /\ RS cB w X a3 cap1.done c3 /\ RS aw w X a1 cap1.o.Rows c1 /\ RS aq w X a2 cap1.l c2 /\ RS cB w X a3 cap1.done c3 /\ OMS aI tI false w X 2004 r4 cap1.failed) (fun s => μ1 s.1 s.2.1 s.2.2) (⟨0, 0, state⟩) ?_ ?_
  ·exact ⟨Z, _, hm0, hS.sl _, hO, hP, h3, h1, h2, h3, h4⟩
  rintro ⟨y110, y111, y112⟩ a w133 ⟨Z, X132, hI, hS, hO, hP, h109, h113, h114, h115, h116⟩
  replace hm := hm y110 y111 y112 hI
  clear hI hm0
  refine rPb T hS [(4, Pt 5 0), (5, Pt 6 0), (13, Sl a3 cap1.done c3), (14, I (lN cap1.done)), (15, I y110), (16, B (decide (y110 < (lN cap1.done))))] fun a hS => ?_
  refine ba ?_
  refine aG hS (b := decide (y110 < (lN cap1.done))) kr (fun hb => ?_) fun hb => ?_
  ·replace hm := hm.1 hb
   refine aJ ?_
   refine bU (fun a w => ∃ (Z : Nat -> Nat) (X : Nat -> Nat) (y118 : Int), VC81_J2 I1 μ1 y110 y111 y112 y118 /\ St Try.f81.ntmps ⟨[(4, Pt 5 0), (5, Pt 6 0), (13, Sl a3 cap1.done c3), (14, I (lN cap1.done)), (15, I y110)], [(5, (147, [V (.int .u32 0), I 0])), (6, (147, [V (.int .u32 y118), I y112])), (901, (144, [I cap1.o.ao, I cap1.o.av, I cap1.o.aC, Sl a1 cap1.o.Rows c1, Sl a2 cap1.l c2, Sl a3 cap1.done c3, V (.map (some r4))]))]⟩ Z a w X /\ dR (cy [(i1, 901), (m4, 2004)]) w0 X0 w X /\ Pin [(901, b1)] Z /\ RS cB w X a3 cap1.done c3 /\ RS aw w X a1 cap1.o.Rows c1 /\ RS aq w X a2 cap1.l c2 /\ RS cB w X a3 cap1.done c3 /\ OMS aI tI false w X 2004 r4 cap1.failed) ?_ ?_
   ·refine aO ?_
    refine bb ?_
    refine oPb T hS 1 [(4, Pt 5 0), (5, Pt 6 0), (13, Sl a3 cap1.done c3), (14, I (lN cap1.done)), (15, I y110), (17, I y110)] fun a hS => ?_
    obtain ⟨hq, hm⟩ := hm
    refine op1 (index (e := 4) (k := .i64) T hS kr kr kr kr h109 kr kr hq.1 hq.2 ?_)
    intro A123 a h124 hS
    refine op1 (ec T hS kr kr kr h124 rfl kr ?_)
    intro v125 a hv hS
    cases hv
    refine ePb T hS [(4, Pt 5 0), (5, Pt 6 0), (6, I y110), (7, B (gi cap1.done y110)), (13, Sl a3 cap1.done c3), (14, I (lN cap1.done)), (15, I y110)] fun a hS => ?_
    refine rPb T hS [(4, Pt 5 0), (5, Pt 6 0), (6, I y110), (13, Sl a3 cap1.done c3), (14, I (lN cap1.done)), (15, I y110), (20, B (gi cap1.done y110))] fun a hS => ?_
    refine aG hS (b := gi cap1.done y110) kr (fun hb => ?_) fun hb => ?_
    ·replace hm := hm.1 hb
     refine fj [5, 901] mixed hS ?_
     intro w126 X127 hS hE hD hH
     replace hO := hO.m2 hE
     replace h109 := h109.m1 hE
     replace h113 := h113.m1 hE
     replace h114 := h114.m1 hE
     replace h115 := h115.m1 hE
     replace h116 := h116.m2 hE
     refine tkb T [0, 2] [5, 901] hS hH #[true, false, true, false, false, false, false] 5 [(4, Pt 5 0), (5, Pt 6 0), (13, Sl a3 cap1.done c3), (14, I (lN cap1.done)), (15, I y110), (21, Pt 6 0), (23, I y110)] fun a hS => ?_
     obtain ⟨hq, hm⟩ := hm
     refine qm (k := .u32) (k2 := .i64) (p := 1) (q := y110) 3 hS kr kr kr (by rfl) kr hH kr kr hq ?_
     intro a hS
     refine only 1 kr (by rfl) (eJ T hS kr kr kr (sv := V (.int .u32 y111)) kr ?_)
     intro a hS
     refine bX (bl.of hS (bks := [5, 901]) kr hD) ?_
     intro hH
     refine tkb T [4, 5] [5, 901] hS hH #[true, true, true, true, true, true, false] 1 [(4, Pt 5 0), (5, Pt 6 0), (13, Sl a3 cap1.done c3), (14, I (lN cap1.done)), (15, I y110), (25, V (.int .u32 (IntKind.u32.wrap ((BitVec.ofInt IntKind.u32.bits y111 ||| BitVec.ofInt IntKind.u32.bits (IntKind.u32.wrap (1 * 2 ^ (min y110.toNat IntKind.u32.bits)))).toNat : Int)))), (26, Pt 6 0)] fun a hS => ?_
     replace hS := hS.sl ⟨[(4, Pt 5 0), (5, Pt 6 0), (13, Sl a3 cap1.done c3), (14, I (lN cap1.done)), (15, I y110), (25, V (.int .u32 (IntKind.u32.wrap ((BitVec.ofInt IntKind.u32.bits y111 ||| BitVec.ofInt IntKind.u32.bits (IntKind.u32.wrap (1 * 2 ^ (min y110.toNat IntKind.u32.bits)))).toNat : Int)))), (26, Pt 6 0)], [(5, (147, [V (.int .u32 0), I 0])), (6, (147, [V (.int .u32 y111), I y112])), (901, (144, [I cap1.o.ao, I cap1.o.av, I cap1.o.aC, Sl a1 cap1.o.Rows c1, Sl a2 cap1.l c2, Sl a3 cap1.done c3, V (.map (some r4))]))]⟩
     refine only 6 kr (by rfl) (oh T hS kr kr (sy' := ⟨[(4, Pt 5 0), (5, Pt 6 0), (13, Sl a3 cap1.done c3), (14, I (lN cap1.done)), (15, I y110), (25, V (.int .u32 (IntKind.u32.wrap ((BitVec.ofInt IntKind.u32.bits y111 ||| BitVec.ofInt IntKind.u32.bits (IntKind.u32.wrap (1 * 2 ^ (min y110.toNat IntKind.u32.bits)))).toNat : Int)))), (26, Pt 6 0)], [(6, (147, [V (.int .u32 (IntKind.u32.wrap ((BitVec.ofInt IntKind.u32.bits y111 ||| BitVec.ofInt IntKind.u32.bits (IntKind.u32.wrap (1 * 2 ^ (min y110.toNat IntKind.u32.bits)))).toNat : Int))), I y112])), (5, (147, [V (.int .u32 0), I 0])), (6, (147, [V (.int .u32 y111), I y112])), (901, (144, [I cap1.o.ao, I cap1.o.av, I cap1.o.aC, Sl a1 cap1.o.Rows c1, Sl a2 cap1.l c2, Sl a3 cap1.done c3, V (.map (some r4))]))]⟩) kr ?_)
     intro a w128 X129 hS hE
     replace hO := hO.m2 hE
     replace hD := hD.ev hE rfl
     replace h109 := h109.m1 hE
     replace h113 := h113.m1 hE
     replace h114 := h114.m1 hE
     replace h115 := h115.m1 hE
     replace h116 := h116.m2 hE
     replace hS := hS.sl ⟨[(4, Pt 5 0), (5, Pt 6 0), (13, Sl a3 cap1.done c3), (14, I (lN cap1.done)), (15, I y110), (25, V (.int .u32 (IntKind.u32.wrap ((BitVec.ofInt IntKind.u32.bits y111 ||| BitVec.ofInt IntKind.u32.bits (IntKind.u32.wrap (1 * 2 ^ (min y110.toNat IntKind.u32.bits)))).toNat : Int)))), (26, Pt 6 0)], [(5, (147, [V (.int .u32 0), I 0])), (6, (147, [V (.int .u32 (IntKind.u32.wrap ((BitVec.ofInt IntKind.u32.bits y111 ||| BitVec.ofInt IntKind.u32.bits (IntKind.u32.wrap (1 * 2 ^ (min y110.toNat IntKind.u32.bits)))).toNat : Int))), I y112])), (901, (144, [I cap1.o.ao, I cap1.o.av, I cap1.o.aC, Sl a1 cap1.o.Rows c1, Sl a2 cap1.l c2, Sl a3 cap1.done c3, V (.map (some r4))]))]⟩
     refine bX (bl.of hS (bks := [5, 901]) kr hD) ?_
     intro hH
     refine aM kr ?_
     replace hS := hS.slb [(4, Pt 5 0), (5, Pt 6 0), (13, Sl a3 cap1.done c3), (14, I (lN cap1.done)), (15, I y110)]
     exact ⟨Z, _, IntKind.u32.wrap ((BitVec.ofInt IntKind.u32.bits y111 ||| BitVec.ofInt IntKind.u32.bits (IntKind.u32.wrap (1 * 2 ^ (min y110.toNat IntKind.u32.bits)))).toNat : Int), hm, hS.sl _, hO, hP, h109, h113, h114, h115, h116⟩
    replace hm := hm.2 hb
    refine aJ ?_
    exact ⟨Z, _, y111, hm, hS.sl _, hO, hP, h109, h113, h114, h115, h116⟩
   rintro a w131 ⟨Z, X130, y118, hm, hS, hO, hP, h117, h119, h120, h121, h122⟩
   unfold VC81_J2 at hm
   refine region (ePb T hS [(4, Pt 5 0), (5, Pt 6 0), (13, Sl a3 cap1.done c3), (14, I (lN cap1.done)), (15, I (wR (y110 + 1)))] fun a hS => ?_)
   exact ⟨⟨wR (y110 + 1), y118, y112⟩, ⟨Z, _, hm.1, hS.sl _, hO, hP, h117, h119, h120, h121, h122⟩, hm.2⟩
  replace hm := hm.2 hb
  refine b0 (by rfl) ?_
  exact ⟨Z, _, y111, y112, hm, hS.sl _, hO, hP, h113, h114, h115, h116⟩
 rintro a w135 ⟨Z, X134, y101, y102, hm, hS, hO, hP, h103, h104, h105, h106⟩
 unfold VC81_J1 at hm
 refine rM T hS ⟨[(4, Pt 5 0)], [(5, (147, [V (.int .u32 y101), I y102])), (901, (144, [I cap1.o.ao, I cap1.o.av, I cap1.o.aC, Sl a1 cap1.o.Rows c1, Sl a2 cap1.l c2, Sl a3 cap1.done c3, V (.map (some r4))]))]⟩ fun Z a w107 X108 hS hE hr => ?_
 replace hO := hO.m2 hE
 replace h103 := h103.m1 hE
 replace h104 := h104.m1 hE
 replace h105 := h105.m1 hE
 replace h106 := h106.m2 hE
 replace hP := hP.mv hr kr
 clear hE hr
 refine aU ?_
 exact eA T hS hO (fun c h => bu kr h) (fun c h => bw (l := [(i1, 901), (m4, 2004)]) h) (bq [(i1, 901), (m4, 2004)]) rfl (r := [.agg #[.int .u32 y101, .int .i64 y102]]) kr (fun X' hM hC => ⟨(⟨y101, y102⟩ : bC), hm, rfl, ((hS.cell (id := 901) (t := 144) (cs := [I cap1.o.ao, I cap1.o.av, I cap1.o.aC, Sl a1 cap1.o.Rows c1, Sl a2 cap1.l c2, Sl a3 cap1.done c3, V (.map (some r4))]) kr).out (f := (bq [(i1, 901), (m4, 2004)])) hC kr kr (hP.at 0 rfl)), (h106.out (f := (bq [(i1, 901), (m4, 2004)])) hM hC kr kr)⟩)
theorem C81 (v : ∀ (state : Int) (cap1 : aP), VC81 state cap1 (fun r => r = cv state cap1)) : S81 := by
 intro w X state cap1 a1 c1 a2 c2 a3 c3 r4 m4  b1 i1 h1 h2 h3 h4 hc1 hA
 refine (W81 w X state cap1 a1 c1 a2 c2 a3 c3 r4 m4  b1 i1 _ (v state cap1) h1 h2 h3 h4 hc1 hA).mono ?_
 rintro _ _ _ _ ⟨r, rfl, h⟩
 exact h
theorem W80 (w0) (X0) (cap1 : aP) (a1) (c1) (a2) (c2) (a3) (c3) (r4) (m4) (b1) (i1) (Q : Bool -> Prop) (hm : VC80 cap1 Q) (h1 : RS aw w0 X0 a1 cap1.o.Rows c1) (h2 : RS aq w0 X0 a2 cap1.l c2) (h3 : RS cB w0 X0 a3 cap1.done c3) (h4 : OMS aI tI false w0 X0 m4 r4 cap1.failed) (hc1 : Cell w0 X0 b1 i1 144 [.int .i64 cap1.o.ao, .int .i64 cap1.o.av, .int .i64 cap1.o.aC, .slice a1 cap1.o.Rows.length c1, .slice a2 cap1.l.length c2, .slice a3 cap1.done.length c3, .map (some r4)]) (hA : cH [i1, m4]) :
  Ret Try.prog 80 #[.pointer (some ⟨b1, 0, none⟩)] (pR [i1, m4]) w0 X0 (fun w X' v => ∃ r, Q r /\ v = .bool r /\ Cell w X' b1 i1 144 [.int .i64 cap1.o.ao, .int .i64 cap1.o.av, .int .i64 cap1.o.aC, .slice a1 cap1.o.Rows.length c1, .slice a2 cap1.l.length c2, .slice a3 cap1.done.length c3, .map (some r4)] /\ OMS aI tI false w X' m4 r4 cap1.failed) := by
 unfold VC80 at hm
 replace hm := hm (h1.sm kr)
 replace hm := hm (h2.sm kr)
 replace hm := hm (h3.sm kr)
 refine dI Try.func80 rfl (cy [(i1, 901), (m4, 2004)]) (fun id => (bif Nat.beq id 901 then b1 else 0)) (args := [Pt 901 0]) (bxs := [(901, (144, [I cap1.o.ao, I cap1.o.av, I cap1.o.aC, Sl a1 cap1.o.Rows c1, Sl a2 cap1.l c2, Sl a3 cap1.done c3, V (.map (some r4))]))]) kr rfl (a8.cons kr (hc1.map (bn 0 hA.1 rfl)) a8.nil) (dA (fun q hq => (hA.2 q.1 (List.mem_map.2 ⟨q, hq, rfl⟩)).1)) ?_
 intro a hS hO hM
 have hP : Pin [(901, b1)] (fun id => (bif Nat.beq id 901 then b1 else 0)) := by intro q hq; simp at hq; rcases hq with rfl <;> rfl
 generalize (fun id => (bif Nat.beq id 901 then b1 else 0)) = Z at hS hP
 clear hc1
 replace h1 := h1.m0 hM
 replace h2 := h2.m0 hM
 replace h3 := h3.m0 hM
 replace h4 := h4.map (f := cy [(i1, 901), (m4, 2004)]) (bn 1 hA.1 rfl) hM
 refine rPb T hS [(0, Pt 901 0)] fun a hS => ?_
 refine bU (fun a w => ∃ Z X, VC80_J1 Q /\ St Try.f80.ntmps ⟨[], [(901, (144, [I cap1.o.ao, I cap1.o.av, I cap1.o.aC, Sl a1 cap1.o.Rows c1, Sl a2 cap1.l c2, Sl a3 cap1.done c3, V (.map (some r4))]))]⟩ Z a w X /\ dR (cy [(i1, 901), (m4, 2004)]) w0 X0 w X /\ Pin [(901, b1)] Z /\ RS aw w X a1 cap1.o.Rows c1 /\ RS aq w X a2 cap1.l c2 /\ RS cB w X a3 cap1.done c3 /\ OMS aI tI false w X 2004 r4 cap1.failed) ?_ ?_
 ·refine rPb T hS [(0, Pt 901 0), (8, Sl a2 cap1.l c2), (9, I (lN cap1.l)), (10, I 0)] fun a hS => ?_
  refine aO ?_
  obtain ⟨I1, μ1, hm0, hm⟩ := hm
  refine b8 (σ := Int) (fun s a w => ∃ Z X, I1 s /\ St Try.f80.ntmps ⟨[(0, Pt 901 0), (8, Sl a2 cap1.l c2), (9, I (lN cap1.l)), (10, I s)], [(901, (144, [I cap1.o.ao, I cap1.o.av, I cap1.o.aC, Sl a1 cap1.o.Rows c1, Sl a2 cap1.l c2, Sl a3 cap1.done c3, V (.map (some r4))]))]⟩ Z a w X /\ dR (cy [(i1, 901), (m4, 2004)]) w0 X0 w X /\ Pin [(901, b1)] Z /\ RS aq w X a2 cap1.l c2 /\ RS aw w X a1 cap1.o.Rows c1 /\ RS aq w X a2 cap1.l c2 /\ RS cB w X a3 cap1.done c3 /\ OMS aI tI false w X 2004 r4 cap1.failed) (fun s => μ1 s) (0) ?_ ?_
  ·exact ⟨Z, _, hm0, hS.sl _, hO, hP, h2, h1, h2, h3, h4⟩
  rintro y106 a w128 ⟨Z, X127, hI, hS, hO, hP, h105, h107, h108, h109, h110⟩
  replace hm := hm y106 hI
  clear hI hm0
  refine rPb T hS [(0, Pt 901 0), (8, Sl a2 cap1.l c2), (9, I (lN cap1.l)), (10, I y106), (11, B (decide (y106 < (lN cap1.l))))] fun a hS => ?_
  refine ba ?_
  refine aG hS (b := decide (y106 < (lN cap1.l))) kr (fun hb => ?_) fun hb => ?_
  ·replace hm := hm.1 hb
   refine aJ (ba ?_)
   refine aO ?_
   refine bb ?_
   refine oPb T hS 1 [(0, Pt 901 0), (8, Sl a2 cap1.l c2), (9, I (lN cap1.l)), (10, I y106), (12, I y106)] fun a hS => ?_
   obtain ⟨hq, hm⟩ := hm
   refine op1 (index (e := 80) (k := .i64) T hS kr kr kr kr h105 kr kr hq.1 hq.2 ?_)
   intro A111 a h112 hS
   refine op1 (di T hS kr kr kr h112 kr kr ?_)
   intro v113 a hv hS
   subst hv
   refine eM T hS ⟨[(0, Pt 901 0), (3, I y106), (4, Pt 5 0), (8, Sl a2 cap1.l c2), (9, I (lN cap1.l)), (10, I y106)], [(5, (80, (cP (gi cap1.l y106)))), (901, (144, [I cap1.o.ao, I cap1.o.av, I cap1.o.aC, Sl a1 cap1.o.Rows c1, Sl a2 cap1.l c2, Sl a3 cap1.done c3, V (.map (some r4))]))]⟩ fun Z a w125 X126 hS hE hr => ?_
   replace hO := hO.m2 hE
   replace h105 := h105.m1 hE
   replace h107 := h107.m1 hE
   replace h108 := h108.m1 hE
   replace h109 := h109.m1 hE
   replace h110 := h110.m2 hE
   replace hP := hP.mv hr kr
   clear hE hr
   refine bU (fun a w => ∃ (Z : Nat -> Nat) (X : Nat -> Nat) (y115 : Bool), VC80_J2 Q I1 μ1 y106 y115 /\ St Try.f80.ntmps ⟨[(0, Pt 901 0), (8, Sl a2 cap1.l c2), (9, I (lN cap1.l)), (10, I y106), (27, B y115)], [(901, (144, [I cap1.o.ao, I cap1.o.av, I cap1.o.aC, Sl a1 cap1.o.Rows c1, Sl a2 cap1.l c2, Sl a3 cap1.done c3, V (.map (some r4))]))]⟩ Z a w X /\ dR (cy [(i1, 901), (m4, 2004)]) w0 X0 w X /\ Pin [(901, b1)] Z /\ RS aq w X a2 cap1.l c2 /\ RS aw w X a1 cap1.o.Rows c1 /\ RS aq w X a2 cap1.l c2 /\ RS cB w X a3 cap1.done c3 /\ OMS aI tI false w X 2004 r4 cap1.failed) ?_ ?_
   ·refine region ?_
    refine oP T hS 4 ⟨[(0, Pt 901 0), (3, I y106), (8, Sl a2 cap1.l c2), (9, I (lN cap1.l)), (10, I y106), (18, B (((gi cap1.l y106).End) != (-1)))], [(901, (144, [I cap1.o.ao, I cap1.o.av, I cap1.o.aC, Sl a1 cap1.o.Rows c1, Sl a2 cap1.l c2, Sl a3 cap1.done c3, V (.map (some r4))]))]⟩ fun a hS => ?_
    rcases bft (((gi cap1.l y106).End) != (-1)) with hb | hb
    ·replace hS := hS.lit (t := 18) kr hb
     replace hm := hm.1 hb
     refine oPb T hS 5 [(0, Pt 901 0), (8, Sl a2 cap1.l c2), (9, I (lN cap1.l)), (10, I y106), (18, B true), (22, Sl a3 cap1.done c3), (23, I y106)] fun a hS => ?_
     obtain ⟨hq, hm⟩ := hm
     refine op1 (index (e := 4) (k := .i64) T hS kr kr kr kr h109 kr kr hq.1 hq.2 ?_)
     intro A120 a h121 hS
     refine op1 (ec T hS kr kr kr h121 rfl kr ?_)
     intro v122 a hv hS
     cases hv
     refine ePb T hS [(0, Pt 901 0), (8, Sl a2 cap1.l c2), (9, I (lN cap1.l)), (10, I y106), (27, B (!(gi cap1.done y106)))] fun a hS => ?_
     exact ⟨Z, _, (!(gi cap1.done y106)), hm, hS.sl _, hO, hP, h105, h107, h108, h109, h110⟩
    replace hS := hS.lit (t := 18) kr hb
    replace hm := hm.2 hb
    refine ePb T hS [(0, Pt 901 0), (8, Sl a2 cap1.l c2), (9, I (lN cap1.l)), (10, I y106), (27, B false)] fun a hS => ?_
    exact ⟨Z, _, false, hm, hS.sl _, hO, hP, h105, h107, h108, h109, h110⟩
   rintro a w124 ⟨Z, X123, y115, hm, hS, hO, hP, h114, h116, h117, h118, h119⟩
   unfold VC80_J2 at hm
   refine aG hS (b := y115) kr (fun hb => ?_) fun hb => ?_
   ·replace hm := hm.1 hb
    refine rPb T hS [(2, B false)] fun a hS => ?_
    refine aU ?_
    exact eA T hS hO (fun c h => bu kr h) (fun c h => bw (l := [(i1, 901), (m4, 2004)]) h) (bq [(i1, 901), (m4, 2004)]) rfl (r := [.bool false]) kr (fun X' hM hC => ⟨false, hm, rfl, ((hS.cell (id := 901) (t := 144) (cs := [I cap1.o.ao, I cap1.o.av, I cap1.o.aC, Sl a1 cap1.o.Rows c1, Sl a2 cap1.l c2, Sl a3 cap1.done c3, V (.map (some r4))]) kr).out (f := (bq [(i1, 901), (m4, 2004)])) hC kr kr (hP.at 0 rfl)), (h119.out (f := (bq [(i1, 901), (m4, 2004)])) hM hC kr kr)⟩)
   replace hm := hm.2 hb
   refine aJ ?_
   refine region (ePb T hS [(0, Pt 901 0), (8, Sl a2 cap1.l c2), (9, I (lN cap1.l)), (10, I (wR (y106 + 1)))] fun a hS => ?_)
   exact ⟨wR (y106 + 1), ⟨Z, _, hm.1, hS.sl _, hO, hP, h114, h116, h117, h118, h119⟩, hm.2⟩
  replace hm := hm.2 hb
  refine b0 (by rfl) ?_
  exact ⟨Z, _, hm, hS.sl _, hO, hP, h107, h108, h109, h110⟩
 rintro a w130 ⟨Z, X129, hm, hS, hO, hP, h101, h102, h103, h104⟩
 unfold VC80_J1 at hm
 refine rPb T hS [(2, B true)] fun a hS => ?_
 refine aU ?_
 exact eA T hS hO (fun c h => bu kr h) (fun c h => bw (l := [(i1, 901), (m4, 2004)]) h) (bq [(i1, 901), (m4, 2004)]) rfl (r := [.bool true]) kr (fun X' hM hC => ⟨true, hm, rfl, ((hS.cell (id := 901) (t := 144) (cs := [I cap1.o.ao, I cap1.o.av, I cap1.o.aC, Sl a1 cap1.o.Rows c1, Sl a2 cap1.l c2, Sl a3 cap1.done c3, V (.map (some r4))]) kr).out (f := (bq [(i1, 901), (m4, 2004)])) hC kr kr (hP.at 0 rfl)), (h104.out (f := (bq [(i1, 901), (m4, 2004)])) hM hC kr kr)⟩)
theorem C80 (v : ∀ (cap1 : aP), nb cap1 -> VC80 cap1 (fun r => r = cG cap1)) : S80 := by
 intro w X cap1 a1 c1 a2 c2 a3 c3 r4 m4  b1 i1 hp h1 h2 h3 h4 hc1 hA
 refine (W80 w X cap1 a1 c1 a2 c2 a3 c3 r4 m4  b1 i1 _ (v cap1 hp) h1 h2 h3 h4 hc1 hA).mono ?_
 rintro _ _ _ _ ⟨r, rfl, h⟩
 exact h
theorem W82 (N) (k69 : S69N N) (k83 : S83) (k84 : S84) (w0) (X0) (p_ : ah) (cap2 : aP) (cap3 : Int) (cap4 : List ah) (a1) (c1) (a2) (c2) (a3) (c3) (m3) (r4) (m4) (a5) (c5) (col1) (b1) (i1) (b2) (i2) (b3) (i3) (b4) (i4) (Q : (List ah) × Bool × aP -> Prop) (hm : VC82 N p_ cap2 cap3 cap4 Q) (h1 : RS aw w0 X0 a1 cap2.o.Rows c1) (h2 : RS aq w0 X0 a2 cap2.l c2) (h3 : OS cB 4 w0 X0 m3 a3 cap2.done c3) (h4 : OMS aI tI false w0 X0 m4 r4 cap2.failed) (h5 : RS au w0 X0 a5 cap4 c5) (hc1 : Cell w0 X0 b1 i1 128 [.pointer (some ⟨b2, 0, none⟩)]) (hc2 : Cell w0 X0 b2 i2 144 [.int .i64 cap2.o.ao, .int .i64 cap2.o.av, .int .i64 cap2.o.aC, .slice a1 cap2.o.Rows.length c1, .slice a2 cap2.l.length c2, .slice a3 cap2.done.length c3, .map (some r4)]) (hc3 : Cell w0 X0 b3 i3 3 [.int .i64 cap3]) (hc4 : Cell w0 X0 b4 i4 58 [.slice a5 cap4.length c5]) (hA : cH [i1, i2, i3, i4, m3, m4]) :
  Ret Try.prog 82 #[.agg #[.int .i64 p_.Oper, .int .i64 p_.Result], .pointer (some ⟨b1, 0, none⟩), .pointer (some ⟨b3, 0, none⟩), .pointer (some ⟨b4, 0, none⟩)] (pR [i1, i2, i3, i4, m3, m4]) w0 X0 (fun w X' v => ∃ r, Q r /\ ∃ ra1 rc1 ra2 rc2 ra3 rc3 ra4 rc4, v = .tuple #[.slice ra1 r.1.length rc1, .bool r.2.1] /\ OS au 100 w X' col1 ra1 r.1 rc1 /\ RS aw w X' ra2 r.2.2.o.Rows rc2 /\ RS aq w X' ra3 r.2.2.l rc3 /\ OS cB 4 w X' m3 ra4 r.2.2.done rc4 /\ Cell w X' b1 i1 128 [.pointer (some ⟨b2, 0, none⟩)] /\ Cell w X' b2 i2 144 [.int .i64 r.2.2.o.ao, .int .i64 r.2.2.o.av, .int .i64 r.2.2.o.aC, .slice ra2 r.2.2.o.Rows.length rc2, .slice ra3 r.2.2.l.length rc3, .slice ra4 r.2.2.done.length rc4, .map (some r4)] /\ OMS aI tI false w X' m4 r4 r.2.2.failed /\ Cell w X' b3 i3 3 [.int .i64 cap3] /\ Cell w X' b4 i4 58 [.slice a5 cap4.length c5]) := by
 unfold VC82 at hm
 replace hm := hm (h1.sm kr)
 replace hm := hm (h2.sm kr)
 replace hm := hm (h3.sm kr)
 replace hm := hm (h5.sm kr)
 refine dI Try.func82 rfl (cy (zL3c2 i1 i2 i3 i4 m3 m4)) (fun id => (bif Nat.beq id 901 then b1 else (bif Nat.beq id 902 then b2 else (bif Nat.beq id 903 then b3 else (bif Nat.beq id 904 then b4 else 0))))) (args := [V (.agg #[.int .i64 p_.Oper, .int .i64 p_.Result]), Pt 901 0, Pt 903 0, Pt 904 0]) (bxs := [(901, (128, [Pt 902 0])), (902, (144, [I cap2.o.ao, I cap2.o.av, I cap2.o.aC, Sl a1 cap2.o.Rows c1, Sl a2 cap2.l c2, Sl a3 cap2.done c3, V (.map (some r4))])), (903, (3, [I cap3])), (904, (58, [Sl a5 cap4 c5]))]) kr rfl (a8.cons kr (hc1.map (bn 0 hA.1 rfl)) (a8.cons kr (hc2.map (bn 1 hA.1 rfl)) (a8.cons kr (hc3.map (bn 2 hA.1 rfl)) (a8.cons kr (hc4.map (bn 3 hA.1 rfl)) a8.nil)))) (dA (fun q hq => (hA.2 q.1 (List.mem_map.2 ⟨q, hq, rfl⟩)).1)) ?_
 intro a hS hO hM
 have hP : Pin [(901, b1), (902, b2), (903, b3), (904, b4)] (fun id => (bif Nat.beq id 901 then b1 else (bif Nat.beq id 902 then b2 else (bif Nat.beq id 903 then b3 else (bif Nat.beq id 904 then b4 else 0))))) := by intro q hq; simp at hq; rcases hq with rfl | rfl | rfl | rfl <;> rfl
 generalize (fun id => (bif Nat.beq id 901 then b1 else (bif Nat.beq id 902 then b2 else (bif Nat.beq id 903 then b3 else (bif Nat.beq id 904 then b4 else 0))))) = Z at hS hP
 clear hc1 hc2 hc3 hc4
 replace h1 := h1.m0 hM
 replace h2 := h2.m0 hM
 replace h3 := h3.map (f := cy (zL3c2 i1 i2 i3 i4 m3 m4)) (bn 4 hA.1 rfl) hM
 replace h4 := h4.map (f := cy (zL3c2 i1 i2 i3 i4 m3 m4)) (bn 5 hA.1 rfl) hM
 replace h5 := h5.m0 hM
 refine rM T hS ⟨[(1, Pt 901 0), (2, Pt 903 0), (3, Pt 904 0), (4, Pt 5 0)], [(5, (100, (cK p_))), (901, (128, [Pt 902 0])), (902, (144, [I cap2.o.ao, I cap2.o.av, I cap2.o.aC, Sl a1 cap2.o.Rows c1, Sl a2 cap2.l c2, Sl a3 cap2.done c3, V (.map (some r4))])), (903, (3, [I cap3])), (904, (58, [Sl a5 cap4 c5]))]⟩ fun Z a w212 X213 hS hE hr => ?_
 replace hO := hO.m2 hE
 replace h1 := h1.m1 hE
 replace h2 := h2.m1 hE
 replace h3 := h3.m2 hE
 replace h4 := h4.m2 hE
 replace h5 := h5.m1 hE
 replace hP := hP.mv hr kr
 clear hE hr
 refine ct [5, 901, 902, 903, 904] mixed hS ?_
 intro w101 X102 hS hE hD hH
 replace hO := hO.m2 hE
 replace h1 := h1.m1 hE
 replace h2 := h2.m1 hE
 replace h3 := h3.m2 hE
 replace h4 := h4.m2 hE
 replace h5 := h5.m1 hE
 refine tk T [0, 4, 5, 9, 1, 6, 10, 2, 7, 3, 8] [5, 901, 902, 903, 904] hS hH #[true, true, true, true, true, true, true, true, true, true, true, false, false, false, false, false, false, false, false, false, false, false] 11 ⟨[(1, Pt 901 0), (3, Pt 904 0), (4, Pt 5 0), (16, V (.agg #[.int .i64 cap2.o.ao, .int .i64 cap2.o.av, .int .i64 cap2.o.aC, .slice a1 cap2.o.Rows.length c1])), (17, I cap3), (21, Sl a2 cap2.l c2), (23, I p_.Oper)], [(5, (100, (cK p_))), (901, (128, [Pt 902 0])), (902, (144, [I cap2.o.ao, I cap2.o.av, I cap2.o.aC, Sl a1 cap2.o.Rows c1, Sl a2 cap2.l c2, Sl a3 cap2.done c3, V (.map (some r4))])), (903, (3, [I cap3])), (904, (58, [Sl a5 cap4 c5]))]⟩ fun a hS => ?_
 obtain ⟨hq, hm⟩ := hm
 refine cD (e := 80) (k := .i64) T 11 hS kr kr kr (by rfl) kr hH kr kr h2 kr kr hq.1 hq.2 ?_
 intro A103 a h104 hS
 have h104b := h104.here
 refine db (off := 1) (fsz := 1) (ft := 3) (TF := tI) (y := (gi cap2.l p_.Oper).Kind) 12 T hS kr kr kr (by rfl) kr hH kr h104 kr kr kr (fun cs h => jz h) ?_
 intro A105 a h106 hbl hS
 have h106b := h104b
 rw [← hbl] at h106b
 clear hbl
 refine dB T 13 hS kr kr kr (by rfl) kr hH kr h106 h106b rfl kr ?_
 intro v107 a hv hS
 cases hv
 refine only 14 kr (by rfl) (call hS kr kr hb83 kr (fun _ _ => rfl) (k83 _ _ cap2.o cap3 ((gi cap2.l p_.Oper).Kind) a1 c1 h1) ?_)
 intro v108 a w109 X110 hE hp hS
 replace hO := hO.m2 hE
 replace hD := hD.ev hE rfl
 replace h1 := h1.m1 hE
 replace h2 := h2.m1 hE
 replace h3 := h3.m2 hE
 replace h4 := h4.m2 hE
 replace h5 := h5.m1 hE
 replace h104 := h104.m1 hE
 replace h106 := h106.m1 hE
 obtain ⟨r111, hr⟩ : ∃ r, bJ cap2.o cap3 ((gi cap2.l p_.Oper).Kind) = r := ⟨_, rfl⟩
 replace hm := hm r111 hr
 rw [hr] at hp
 clear hr
 subst hp
 replace hS := hS.sl ⟨[(1, Pt 901 0), (3, Pt 904 0), (4, Pt 5 0), (16, V (.agg #[.int .i64 cap2.o.ao, .int .i64 cap2.o.av, .int .i64 cap2.o.aC, .slice a1 cap2.o.Rows.length c1])), (17, I cap3), (21, Sl a2 cap2.l c2), (23, I p_.Oper), (24, V (.pointer (some A103))), (25, V (.pointer (some A105))), (26, I ((gi cap2.l p_.Oper).Kind)), (27, V (.tuple #[.int .i64 r111.1, .int .i64 r111.2.1, .bool r111.2.2]))], [(5, (100, (cK p_))), (901, (128, [Pt 902 0])), (902, (144, [I cap2.o.ao, I cap2.o.av, I cap2.o.aC, Sl a1 cap2.o.Rows c1, Sl a2 cap2.l c2, Sl a3 cap2.done c3, V (.map (some r4))])), (903, (3, [I cap3])), (904, (58, [Sl a5 cap4 c5]))]⟩
 refine bX (bl.of hS (bks := [5, 901, 902, 903, 904]) kr hD) ?_
 intro hH
 refine tk T [15, 16, 17, 18, 19, 20, 21] [5, 901, 902, 903, 904] hS hH #[true, true, true, true, true, true, true, true, true, true, true, true, true, true, true, true, true, true, true, true, true, true] 0 ⟨[(1, Pt 901 0), (3, Pt 904 0), (4, Pt 5 0), (7, I r111.1)], [(5, (100, (cK p_))), (901, (128, [Pt 902 0])), (902, (144, [I cap2.o.ao, I cap2.o.av, I cap2.o.aC, Sl a1 cap2.o.Rows c1, Sl a2 cap2.l c2, Sl a3 cap2.done c3, V (.map (some r4))])), (903, (3, [I cap3])), (904, (58, [Sl a5 cap4 c5]))]⟩ fun a hS => ?_
 refine aM kr ?_
 replace hS := hS.sl ⟨[(1, Pt 901 0), (3, Pt 904 0), (4, Pt 5 0), (7, I r111.1)], [(5, (100, (cK p_))), (901, (128, [Pt 902 0])), (902, (144, [I cap2.o.ao, I cap2.o.av, I cap2.o.aC, Sl a1 cap2.o.Rows c1, Sl a2 cap2.l c2, Sl a3 cap2.done c3, V (.map (some r4))])), (903, (3, [I cap3])), (904, (58, [Sl a5 cap4 c5]))]⟩
 refine ct [5, 901, 902, 903, 904] mixed hS ?_
 intro w112 X113 hS hE hD hH
 replace hO := hO.m2 hE
 replace h1 := h1.m1 hE
 replace h2 := h2.m1 hE
 replace h3 := h3.m2 hE
 replace h4 := h4.m2 hE
 replace h5 := h5.m1 hE
 refine tk T [0, 4, 1, 5, 2, 3] [5, 901, 902, 903, 904] hS hH #[true, true, true, true, true, true, false, false] 2 ⟨[(1, Pt 901 0), (3, Pt 904 0), (4, Pt 5 0), (7, I r111.1), (34, Sl a3 cap2.done c3), (36, I p_.Oper)], [(5, (100, (cK p_))), (901, (128, [Pt 902 0])), (902, (144, [I cap2.o.ao, I cap2.o.av, I cap2.o.aC, Sl a1 cap2.o.Rows c1, Sl a2 cap2.l c2, Sl a3 cap2.done c3, V (.map (some r4))])), (903, (3, [I cap3])), (904, (58, [Sl a5 cap4 c5]))]⟩ fun a hS => ?_
 obtain ⟨hq117, hm⟩ := hm
 refine only 6 kr (by rfl) (ie (E := 4) (k := .i64) T hS kr kr kr kr h3 kr kr hq117.1 hq117.2 ?_)
 intro A114 a h116 h115 hS
 refine bX (bl.of hS (bks := [5, 901, 902, 903, 904]) kr hD) ?_
 intro hH
 refine only 7 kr (by rfl) (og (x := true) (v := B true) (i := p_.Oper.toNat) (E := 4) (xs := cap2.done) T hS kr kr kr kr h3 h116 (by have := hq117.1; have := hq117.2; omega) kr (fun _ _ _ => rfl) ?_)
 intro a w118 hE h119 hS
 clear h3 h116 h115 hq117
 replace hO := hO.m2 hE
 replace hD := hD.ev hE rfl
 replace h1 := h1.m1 hE
 replace h2 := h2.m1 hE
 replace h4 := h4.m2 hE
 replace h5 := h5.m1 hE
 replace hS := hS.conv (t := 34) (y := .slice a3 (cap2.done.set p_.Oper.toNat true).length c3) kr (by rw [List.length_set])
 refine bX (bl.of hS (bks := [5, 901, 902, 903, 904]) kr hD) ?_
 intro hH
 have hx120 := hS.cell (id := 902) (t := 144) (cs := [I cap2.o.ao, I cap2.o.av, I cap2.o.aC, Sl a1 cap2.o.Rows c1, Sl a2 cap2.l c2, Sl a3 cap2.done c3, V (.map (some r4))]) kr
 replace hx120 := hx120.conv (vals' := [.int .i64 cap2.o.ao, .int .i64 cap2.o.av, .int .i64 cap2.o.aC, .slice a1 cap2.o.Rows.length c1, .slice a2 cap2.l.length c2, .slice a3 (cap2.done.set p_.Oper.toNat true).length c3, .map (some r4)]) (by rw [List.length_set]; rfl)
 replace hS := hS.bQ (id := 902) (t := 144) (cs := [I cap2.o.ao, I cap2.o.av, I cap2.o.aC, Sl a1 cap2.o.Rows c1, Sl a2 cap2.l c2, Sl a3 (cap2.done.set p_.Oper.toNat true) c3, V (.map (some r4))]) kr hx120
 clear hx120
 refine aM kr ?_
 replace hS := hS.sl ⟨[(1, Pt 901 0), (3, Pt 904 0), (4, Pt 5 0), (7, I r111.1)], [(5, (100, (cK p_))), (901, (128, [Pt 902 0])), (902, (144, [I cap2.o.ao, I cap2.o.av, I cap2.o.aC, Sl a1 cap2.o.Rows c1, Sl a2 cap2.l c2, Sl a3 (cap2.done.set p_.Oper.toNat true) c3, V (.map (some r4))])), (903, (3, [I cap3])), (904, (58, [Sl a5 cap4 c5]))]⟩
 refine ct [5, 901, 903, 904] mixed hS ?_
 intro w121 X122 hS hE hD hH
 replace hO := hO.m2 hE
 replace h1 := h1.m1 hE
 replace h2 := h2.m1 hE
 replace h4 := h4.m2 hE
 replace h5 := h5.m1 hE
 replace h119 := h119.m2 hE
 refine tk T [0, 1, 2, 4] [5, 901, 903, 904] hS hH #[true, true, true, false, true, false, false, false, false, false, false, false, false] 9 ⟨[(1, Pt 901 0), (4, Pt 5 0), (39, Pt 902 0), (40, I r111.1), (41, Sl a5 cap4 c5), (43, V (.agg #[.int .i64 p_.Oper, .int .i64 p_.Result]))], [(5, (100, (cK p_))), (901, (128, [Pt 902 0])), (902, (144, [I cap2.o.ao, I cap2.o.av, I cap2.o.aC, Sl a1 cap2.o.Rows c1, Sl a2 cap2.l c2, Sl a3 (cap2.done.set p_.Oper.toNat true) c3, V (.map (some r4))])), (903, (3, [I cap3])), (904, (58, [Sl a5 cap4 c5]))]⟩ fun a hS => ?_
 obtain ⟨hgp3, hm⟩ := hm
 obtain ⟨r126, hgr3⟩ : ∃ r, bA cap4 = r := ⟨_, rfl⟩
 replace hm := hm r126 hgr3
 refine nI (fun a w => ∃ X a146 c147 a149 c150, St Try.f82.ntmps ⟨[(1, Pt 901 0), (4, Pt 5 0), (39, Pt 902 0), (40, I r111.1), (42, Sl a146 r126 c147), (44, Sl a149 [p_] c150)], [(5, (100, (cK p_))), (901, (128, [Pt 902 0])), (902, (144, [I cap2.o.ao, I cap2.o.av, I cap2.o.aC, Sl a1 cap2.o.Rows c1, Sl a2 cap2.l c2, Sl a3 (cap2.done.set p_.Oper.toNat true) c3, V (.map (some r4))])), (903, (3, [I cap3])), (904, (58, [Sl a5 cap4 c5]))]⟩ Z a w X /\ dR (cy (zL3c2 i1 i2 i3 i4 m3 m4)) w0 X0 w X /\ M0 w121 X122 w X /\ bl w121 X122 (gW [5, 901, 903, 904] ⟨[(1, Pt 901 0), (3, Pt 904 0), (4, Pt 5 0), (7, I r111.1)], [(5, (100, (cK p_))), (901, (128, [Pt 902 0])), (902, (144, [I cap2.o.ao, I cap2.o.av, I cap2.o.aC, Sl a1 cap2.o.Rows c1, Sl a2 cap2.l c2, Sl a3 (cap2.done.set p_.Oper.toNat true) c3, V (.map (some r4))])), (903, (3, [I cap3])), (904, (58, [Sl a5 cap4 c5]))]⟩) Z w /\ OS au 100 w X 1006 a146 r126 c147 /\ RS au w X a149 [p_] c150 /\ RS aw w X a1 cap2.o.Rows c1 /\ RS aq w X a2 cap2.l c2 /\ OS cB 4 w X 2003 a3 (cap2.done.set p_.Oper.toNat true) c3 /\ OMS aI tI false w X 2004 r4 cap2.failed /\ RS au w X a5 cap4 c5) #[true, true, true, true, true, true, false, false, false, false, false, false, false] 7 ?_ (fun H => ?_)
 ·rintro a w179 ⟨X178, a146, c147, a149, c150, hS, hO, hD, hH, h145, h148, h151, h152, h153, h154, h155⟩
  replace hm := hm (h145.sm kr)
  clear hgp3 hgr3
  obtain ⟨hq, hm⟩ := hm
  obtain ⟨news, hN⟩ := h148.src
  refine only 6 kr (by rfl) (append (E := 100) (T := au) (col := 1006) (xs := r126) T hS kr kr kr kr h145 hN kr kr kr kr hq ?_)
  intro a183 c184 a w180 X181 hE h182 hS
  clear hq hN
  clear h145
  replace hO := hO.m2 hE
  replace hD := hD.ev hE rfl
  replace h148 := h148.m1 hE
  replace h151 := h151.m1 hE
  replace h152 := h152.m1 hE
  replace h153 := h153.m2 hE
  replace h154 := h154.m2 hE
  replace h155 := h155.m1 hE
  replace hS := hS.sl ⟨[(1, Pt 901 0), (4, Pt 5 0), (39, Pt 902 0), (40, I r111.1), (44, Sl a149 [p_] c150), (45, Sl a183 (r126 ++ [p_]) c184)], [(5, (100, (cK p_))), (901, (128, [Pt 902 0])), (902, (144, [I cap2.o.ao, I cap2.o.av, I cap2.o.aC, Sl a1 cap2.o.Rows c1, Sl a2 cap2.l c2, Sl a3 (cap2.done.set p_.Oper.toNat true) c3, V (.map (some r4))])), (903, (3, [I cap3])), (904, (58, [Sl a5 cap4 c5]))]⟩
  refine bX (bl.of hS (bks := [5, 901, 903, 904]) kr hD) ?_
  intro hH
  obtain ⟨hq, hm⟩ := hm
  refine only 7 kr (by rfl) (gH hS kr kr hb69 kr (k69 _ _ r111.1 (r126 ++ [p_]) (⟨cap2.o, cap2.l, (cap2.done.set p_.Oper.toNat true), cap2.failed⟩ : aP) a183 c184 1006 a1 c1 a2 c2 a3 c3 2003 r4 2004 (Z 902) 902 hq.1 hq.2 h182 h151 h152 h153 h154 (hS.cell (id := 902) (t := 144) (cs := [I cap2.o.ao, I cap2.o.av, I cap2.o.aC, Sl a1 cap2.o.Rows c1, Sl a2 cap2.l c2, Sl a3 (cap2.done.set p_.Oper.toNat true) c3, V (.map (some r4))]) kr) ⟨by decide, by decide⟩) ?_)
  intro v185 a w186 X187 hE hp hS
  clear h154
  clear h182
  clear h153
  replace hO := hO.m2 hE
  replace hD := hD.ev hE rfl
  replace h148 := h148.m1 hE
  replace h151 := h151.m1 hE
  replace h152 := h152.m1 hE
  replace h155 := h155.m1 hE
  obtain ⟨a189, c190, a192, c193, a195, c196, a198, c199, hp, h191, h194, h197, h200, hc202, h201⟩ := hp
  obtain ⟨r188, hr⟩ : ∃ r, aB r111.1 (r126 ++ [p_]) (⟨cap2.o, cap2.l, (cap2.done.set p_.Oper.toNat true), cap2.failed⟩ : aP) = r := ⟨_, rfl⟩
  replace hm := hm r188 hr
  rw [hr] at hp h191 h194 h197 h200 hc202 h201
  clear hr
  subst hp
  replace hm := hm (h191.sm kr)
  replace hm := hm (h194.sm kr)
  replace hm := hm (h197.sm kr)
  replace hm := hm (h200.sm kr)
  replace hS := hS.bQ (id := 902) (t := 144) (cs := [I r188.2.2.o.ao, I r188.2.2.o.av, I r188.2.2.o.aC, Sl a192 r188.2.2.o.Rows c193, Sl a195 r188.2.2.l c196, Sl a198 r188.2.2.done c199, V (.map (some r4))]) kr hc202
  clear hc202
  replace hS := hS.sl ⟨[(1, Pt 901 0), (4, Pt 5 0), (39, Pt 902 0), (40, I r111.1), (44, Sl a149 [p_] c150), (46, V (.tuple #[.slice a189 r188.1.length c190, .bool r188.2.1]))], [(5, (100, (cK p_))), (901, (128, [Pt 902 0])), (902, (144, [I r188.2.2.o.ao, I r188.2.2.o.av, I r188.2.2.o.aC, Sl a192 r188.2.2.o.Rows c193, Sl a195 r188.2.2.l c196, Sl a198 r188.2.2.done c199, V (.map (some r4))])), (903, (3, [I cap3])), (904, (58, [Sl a5 cap4 c5]))]⟩
  refine bX (bl.of hS (bks := [5, 901, 903, 904]) kr hD) ?_
  intro hH
  refine tk T [8, 9, 10, 11, 12] [5, 901, 903, 904] hS hH #[true, true, true, true, true, true, true, true, true, true, true, true, true] 0 ⟨[(1, Pt 901 0), (4, Pt 5 0), (10, Sl a189 r188.1 c190), (11, B r188.2.1)], [(5, (100, (cK p_))), (901, (128, [Pt 902 0])), (902, (144, [I r188.2.2.o.ao, I r188.2.2.o.av, I r188.2.2.o.aC, Sl a192 r188.2.2.o.Rows c193, Sl a195 r188.2.2.l c196, Sl a198 r188.2.2.done c199, V (.map (some r4))])), (903, (3, [I cap3])), (904, (58, [Sl a5 cap4 c5]))]⟩ fun a hS => ?_
  refine aM kr ?_
  replace hS := hS.sl ⟨[(1, Pt 901 0), (4, Pt 5 0), (10, Sl a189 r188.1 c190), (11, B r188.2.1)], [(5, (100, (cK p_))), (901, (128, [Pt 902 0])), (902, (144, [I r188.2.2.o.ao, I r188.2.2.o.av, I r188.2.2.o.aC, Sl a192 r188.2.2.o.Rows c193, Sl a195 r188.2.2.l c196, Sl a198 r188.2.2.done c199, V (.map (some r4))])), (903, (3, [I cap3])), (904, (58, [Sl a5 cap4 c5]))]⟩
  refine ct [5, 901, 902, 903, 904] mixed hS ?_
  intro w203 X204 hS hE hD hH
  replace hO := hO.m2 hE
  replace h155 := h155.m1 hE
  replace h201 := h201.m2 hE
  replace h191 := h191.m2 hE
  replace h194 := h194.m1 hE
  replace h197 := h197.m1 hE
  replace h200 := h200.m2 hE
  refine tk T [0, 4, 1, 5, 2, 3] [5, 901, 902, 903, 904] hS hH #[true, true, true, true, true, true, false, false] 2 ⟨[(10, Sl a189 r188.1 c190), (11, B r188.2.1), (52, Sl a198 r188.2.2.done c199), (54, I p_.Oper)], [(5, (100, (cK p_))), (901, (128, [Pt 902 0])), (902, (144, [I r188.2.2.o.ao, I r188.2.2.o.av, I r188.2.2.o.aC, Sl a192 r188.2.2.o.Rows c193, Sl a195 r188.2.2.l c196, Sl a198 r188.2.2.done c199, V (.map (some r4))])), (903, (3, [I cap3])), (904, (58, [Sl a5 cap4 c5]))]⟩ fun a hS => ?_
  obtain ⟨hq208, hm⟩ := hm
  refine only 6 kr (by rfl) (ie (E := 4) (k := .i64) T hS kr kr kr kr h200 kr kr hq208.1 hq208.2 ?_)
  intro A205 a h207 h206 hS
  refine bX (bl.of hS (bks := [5, 901, 902, 903, 904]) kr hD) ?_
  intro hH
  refine only 7 kr (by rfl) (og (x := false) (v := B false) (i := p_.Oper.toNat) (E := 4) (xs := r188.2.2.done) T hS kr kr kr kr h200 h207 (by have := hq208.1; have := hq208.2; omega) kr (fun _ _ _ => rfl) ?_)
  intro a w209 hE h210 hS
  clear h200 h207 h206 hq208
  replace hO := hO.m2 hE
  replace hD := hD.ev hE rfl
  replace h155 := h155.m1 hE
  replace h201 := h201.m2 hE
  replace h191 := h191.m2 hE
  replace h194 := h194.m1 hE
  replace h197 := h197.m1 hE
  replace hS := hS.conv (t := 52) (y := .slice a198 (r188.2.2.done.set p_.Oper.toNat false).length c199) kr (by rw [List.length_set])
  refine bX (bl.of hS (bks := [5, 901, 902, 903, 904]) kr hD) ?_
  intro hH
  have hx211 := hS.cell (id := 902) (t := 144) (cs := [I r188.2.2.o.ao, I r188.2.2.o.av, I r188.2.2.o.aC, Sl a192 r188.2.2.o.Rows c193, Sl a195 r188.2.2.l c196, Sl a198 r188.2.2.done c199, V (.map (some r4))]) kr
  replace hx211 := hx211.conv (vals' := [.int .i64 r188.2.2.o.ao, .int .i64 r188.2.2.o.av, .int .i64 r188.2.2.o.aC, .slice a192 r188.2.2.o.Rows.length c193, .slice a195 r188.2.2.l.length c196, .slice a198 (r188.2.2.done.set p_.Oper.toNat false).length c199, .map (some r4)]) (by rw [List.length_set]; rfl)
  replace hS := hS.bQ (id := 902) (t := 144) (cs := [I r188.2.2.o.ao, I r188.2.2.o.av, I r188.2.2.o.aC, Sl a192 r188.2.2.o.Rows c193, Sl a195 r188.2.2.l c196, Sl a198 (r188.2.2.done.set p_.Oper.toNat false) c199, V (.map (some r4))]) kr hx211
  clear hx211
  refine aM kr ?_
  replace hS := hS.sl ⟨[(10, Sl a189 r188.1 c190), (11, B r188.2.1)], [(901, (128, [Pt 902 0])), (902, (144, [I r188.2.2.o.ao, I r188.2.2.o.av, I r188.2.2.o.aC, Sl a192 r188.2.2.o.Rows c193, Sl a195 r188.2.2.l c196, Sl a198 (r188.2.2.done.set p_.Oper.toNat false) c199, V (.map (some r4))])), (903, (3, [I cap3])), (904, (58, [Sl a5 cap4 c5]))]⟩
  refine rP T hS ⟨[(5, Sl a189 r188.1 c190), (6, B r188.2.1)], [(901, (128, [Pt 902 0])), (902, (144, [I r188.2.2.o.ao, I r188.2.2.o.av, I r188.2.2.o.aC, Sl a192 r188.2.2.o.Rows c193, Sl a195 r188.2.2.l c196, Sl a198 (r188.2.2.done.set p_.Oper.toNat false) c199, V (.map (some r4))])), (903, (3, [I cap3])), (904, (58, [Sl a5 cap4 c5]))]⟩ fun a hS => ?_
  refine aU ?_
  exact eA T hS hO (fun c h => bu kr h) (fun c h => bw (l := (zL3c2 i1 i2 i3 i4 m3 m4)) h) (bq [(i1, 901), (i2, 902), (i3, 903), (i4, 904), (m3, 2003), (m4, 2004), (col1, 1006)]) rfl (r := [.slice a189 r188.1.length c190, .bool r188.2.1]) kr (fun X' hM hC => ⟨(r188.1, r188.2.1, (⟨r188.2.2.o, r188.2.2.l, (r188.2.2.done.set p_.Oper.toNat false), r188.2.2.failed⟩ : aP)), hm, a189, c190, a192, c193, a195, c196, a198, c199, rfl, (OS.out (f := (bq [(i1, 901), (i2, 902), (i3, 903), (i4, 904), (m3, 2003), (m4, 2004), (col1, 1006)])) h191 hM hC kr), h194.m0 hM, h197.m0 hM, (OS.out (f := (bq [(i1, 901), (i2, 902), (i3, 903), (i4, 904), (m3, 2003), (m4, 2004), (col1, 1006)])) h210 hM hC kr), (Cell.ptr (id := 902) ((hS.cell (id := 901) (t := 128) (cs := [Pt 902 0]) kr).out (f := (bq [(i1, 901), (i2, 902), (i3, 903), (i4, 904), (m3, 2003), (m4, 2004), (col1, 1006)])) hC kr kr (hP.at 0 rfl)) (hP.at 1 rfl)), ((hS.cell (id := 902) (t := 144) (cs := [I r188.2.2.o.ao, I r188.2.2.o.av, I r188.2.2.o.aC, Sl a192 r188.2.2.o.Rows c193, Sl a195 r188.2.2.l c196, Sl a198 (r188.2.2.done.set p_.Oper.toNat false) c199, V (.map (some r4))]) kr).out (f := (bq [(i1, 901), (i2, 902), (i3, 903), (i4, 904), (m3, 2003), (m4, 2004), (col1, 1006)])) hC kr kr (hP.at 1 rfl)), (h201.out (f := (bq [(i1, 901), (i2, 902), (i3, 903), (i4, 904), (m3, 2003), (m4, 2004), (col1, 1006)])) hM hC kr kr), ((hS.cell (id := 903) (t := 3) (cs := [I cap3]) kr).out (f := (bq [(i1, 901), (i2, 902), (i3, 903), (i4, 904), (m3, 2003), (m4, 2004), (col1, 1006)])) hC kr kr (hP.at 2 rfl)), ((hS.cell (id := 904) (t := 58) (cs := [Sl a5 cap4 c5]) kr).out (f := (bq [(i1, 901), (i2, 902), (i3, 903), (i4, 904), (m3, 2003), (m4, 2004), (col1, 1006)])) hC kr kr (hP.at 3 rfl))⟩)
 clear hm
 refine ku (is := [3, 5]) kr (by decide) ?_
 intro i hi
 rcases nY hi with rfl | rfl
 ·have hq := hgp3
  refine fK (by rfl) (call hS kr kr hb84 kr (fun _ _ => rfl) (k84 _ _ cap4 a5 c5 1006 hq h5) ?_)
  intro v156 a w157 X158 hE hp hS
  replace hO := hO.m2 hE
  replace hD := hD.ev hE rfl
  replace h1 := h1.m1 hE
  replace h2 := h2.m1 hE
  replace h4 := h4.m2 hE
  replace h5 := h5.m1 hE
  replace h119 := h119.m2 hE
  obtain ⟨a160, c161, hp, h162⟩ := hp
  rw [hgr3] at hp h162
  subst hp
  replace hS := hS.sl ⟨[(1, Pt 901 0), (4, Pt 5 0), (39, Pt 902 0), (40, I r111.1), (41, Sl a5 cap4 c5), (43, V (.agg #[.int .i64 p_.Oper, .int .i64 p_.Result])), (42, Sl a160 r126 c161)], [(5, (100, (cK p_))), (901, (128, [Pt 902 0])), (902, (144, [I cap2.o.ao, I cap2.o.av, I cap2.o.aC, Sl a1 cap2.o.Rows c1, Sl a2 cap2.l c2, Sl a3 (cap2.done.set p_.Oper.toNat true) c3, V (.map (some r4))])), (903, (3, [I cap3])), (904, (58, [Sl a5 cap4 c5]))]⟩
  refine bX (bl.of hS (bks := [5, 901, 903, 904]) kr hD) ?_
  intro hH
  refine only 5 kr (by rfl) (lit (E := 100) (col := 0) (T := au) (vals := [.agg #[.int .i64 p_.Oper, .int .i64 p_.Result]]) (ys := [p_]) T hS kr kr kr kr (by exact ⟨rfl, trivial⟩) rfl kr kr kr kr ?_)
  intro b163 a w164 X165 hE h166 hN hS
  clear hN
  replace hO := hO.m2 hE
  replace hD := hD.ev hE rfl
  replace h1 := h1.m1 hE
  replace h2 := h2.m1 hE
  replace h4 := h4.m2 hE
  replace h5 := h5.m1 hE
  replace h119 := h119.m2 hE
  replace h162 := h162.m2 hE
  replace h166 := h166.rs0
  refine bX (bl.of hS (bks := [5, 901, 903, 904]) kr hD) ?_
  intro hH
  exact H _ _ ⟨_, a160, c161, (some ⟨b163, 0, none⟩), 1, hS.sl _, hO, hD, hH, h162, h166, h1, h2, h119, h4, h5⟩
 refine fK (by rfl) (lit (E := 100) (col := 0) (T := au) (vals := [.agg #[.int .i64 p_.Oper, .int .i64 p_.Result]]) (ys := [p_]) T hS kr kr kr kr (by exact ⟨rfl, trivial⟩) rfl kr kr kr kr ?_)
 intro b167 a w168 X169 hE h170 hN hS
 clear hN
 replace hO := hO.m2 hE
 replace hD := hD.ev hE rfl
 replace h1 := h1.m1 hE
 replace h2 := h2.m1 hE
 replace h4 := h4.m2 hE
 replace h5 := h5.m1 hE
 replace h119 := h119.m2 hE
 replace h170 := h170.rs0
 refine bX (bl.of hS (bks := [5, 901, 903, 904]) kr hD) ?_
 intro hH
 have hq := hgp3
 refine only 3 kr (by rfl) (call hS kr kr hb84 kr (fun _ _ => rfl) (k84 _ _ cap4 a5 c5 1006 hq h5) ?_)
 intro v171 a w172 X173 hE hp hS
 replace hO := hO.m2 hE
 replace hD := hD.ev hE rfl
 replace h1 := h1.m1 hE
 replace h2 := h2.m1 hE
 replace h4 := h4.m2 hE
 replace h5 := h5.m1 hE
 replace h119 := h119.m2 hE
 replace h170 := h170.m1 hE
 obtain ⟨a175, c176, hp, h177⟩ := hp
 rw [hgr3] at hp h177
 subst hp
 replace hS := hS.sl ⟨[(1, Pt 901 0), (4, Pt 5 0), (39, Pt 902 0), (40, I r111.1), (41, Sl a5 cap4 c5), (43, V (.agg #[.int .i64 p_.Oper, .int .i64 p_.Result])), (44, Sl (some ⟨b167, 0, none⟩) [p_] 1), (42, Sl a175 r126 c176)], [(5, (100, (cK p_))), (901, (128, [Pt 902 0])), (902, (144, [I cap2.o.ao, I cap2.o.av, I cap2.o.aC, Sl a1 cap2.o.Rows c1, Sl a2 cap2.l c2, Sl a3 (cap2.done.set p_.Oper.toNat true) c3, V (.map (some r4))])), (903, (3, [I cap3])), (904, (58, [Sl a5 cap4 c5]))]⟩
 refine bX (bl.of hS (bks := [5, 901, 903, 904]) kr hD) ?_
 intro hH
 exact H _ _ ⟨_, a175, c176, (some ⟨b167, 0, none⟩), 1, hS.sl _, hO, hD, hH, h177, h170, h1, h2, h119, h4, h5⟩
theorem C82 (N : Nat) (k69 : S69N N) (k83 : S83) (k84 : S84) (v : ∀ (p_ : ah) (cap2 : aP) (cap3 : Int) (cap4 : List ah), nc p_ cap2 cap3 cap4 -> oT p_ cap2 cap3 cap4 < N + 1 -> VC82 N p_ cap2 cap3 cap4 (fun r => r = aW p_ cap2 cap3 cap4)) : S82N (N + 1) := by
 intro w X p_ cap2 cap3 cap4 a1 c1 a2 c2 a3 c3 m3 r4 m4 a5 c5 col1 b1 i1 b2 i2 b3 i3 b4 i4 hp hms h1 h2 h3 h4 h5 hc1 hc2 hc3 hc4 hA
 refine (W82 N k69 k83 k84 w X p_ cap2 cap3 cap4 a1 c1 a2 c2 a3 c3 m3 r4 m4 a5 c5 col1 b1 i1 b2 i2 b3 i3 b4 i4 _ (v p_ cap2 cap3 cap4 hp hms) h1 h2 h3 h4 h5 hc1 hc2 hc3 hc4 hA).mono ?_
 rintro _ _ _ _ ⟨r, rfl, h⟩
 exact h
theorem W69 (N) (k80 : S80) (k81 : S81) (k82 : S82N N) (k85 : S85) (w0) (X0) (state : Int) (so : List ah) (cap1 : aP) (a1) (c1) (m1) (a2) (c2) (a3) (c3) (a4) (c4) (m4) (r5) (m5) (b1) (i1) (Q : (List ah) × Bool × aP -> Prop) (hm : VC69 N state so cap1 Q) (h1 : OS au 100 w0 X0 m1 a1 so c1) (h2 : RS aw w0 X0 a2 cap1.o.Rows c2) (h3 : RS aq w0 X0 a3 cap1.l c3) (h4 : OS cB 4 w0 X0 m4 a4 cap1.done c4) (h5 : OMS aI tI false w0 X0 m5 r5 cap1.failed) (hc1 : Cell w0 X0 b1 i1 144 [.int .i64 cap1.o.ao, .int .i64 cap1.o.av, .int .i64 cap1.o.aC, .slice a2 cap1.o.Rows.length c2, .slice a3 cap1.l.length c3, .slice a4 cap1.done.length c4, .map (some r5)]) (hA : cH [i1, m1, m4, m5]) :
  Ret Try.prog 69 #[.pointer (some ⟨b1, 0, none⟩), .int .i64 state, .slice a1 so.length c1] (pR [i1, m1, m4, m5]) w0 X0 (fun w X' v => ∃ r, Q r /\ ∃ ra1 rc1 ra2 rc2 ra3 rc3 ra4 rc4, v = .tuple #[.slice ra1 r.1.length rc1, .bool r.2.1] /\ OS au 100 w X' m1 ra1 r.1 rc1 /\ RS aw w X' ra2 r.2.2.o.Rows rc2 /\ RS aq w X' ra3 r.2.2.l rc3 /\ OS cB 4 w X' m4 ra4 r.2.2.done rc4 /\ Cell w X' b1 i1 144 [.int .i64 r.2.2.o.ao, .int .i64 r.2.2.o.av, .int .i64 r.2.2.o.aC, .slice ra2 r.2.2.o.Rows.length rc2, .slice ra3 r.2.2.l.length rc3, .slice ra4 r.2.2.done.length rc4, .map (some r5)] /\ OMS aI tI false w X' m5 r5 r.2.2.failed) := by
 unfold VC69 at hm
 replace hm := hm (h1.sm kr)
 replace hm := hm (h2.sm kr)
 replace hm := hm (h3.sm kr)
 replace hm := hm (h4.sm kr)
 refine dI Try.func69 rfl (cy (zL3c3 i1 m1 m4 m5)) (fun id => (bif Nat.beq id 901 then b1 else 0)) (args := [Pt 901 0, I state, Sl a1 so c1]) (bxs := [(901, (144, [I cap1.o.ao, I cap1.o.av, I cap1.o.aC, Sl a2 cap1.o.Rows c2, Sl a3 cap1.l c3, Sl a4 cap1.done c4, V (.map (some r5))]))]) kr rfl (a8.cons kr (hc1.map (bn 0 hA.1 rfl)) a8.nil) (dA (fun q hq => (hA.2 q.1 (List.mem_map.2 ⟨q, hq, rfl⟩)).1)) ?_
 intro a hS hO hM
 have hP : Pin [(901, b1)] (fun id => (bif Nat.beq id 901 then b1 else 0)) := by intro q hq; simp at hq; rcases hq with rfl <;> rfl
 generalize (fun id => (bif Nat.beq id 901 then b1 else 0)) = Z at hS hP
 clear hc1
 replace h1 := h1.map (f := cy (zL3c3 i1 m1 m4 m5)) (bn 1 hA.1 rfl) hM
 replace h2 := h2.m0 hM
 replace h3 := h3.m0 hM
 replace h4 := h4.map (f := cy (zL3c3 i1 m1 m4 m5)) (bn 2 hA.1 rfl) hM
 replace h5 := h5.map (f := cy (zL3c3 i1 m1 m4 m5)) (bn 3 hA.1 rfl) hM
 refine rM T hS ⟨[(3, Pt 4 0), (4, Pt 5 0), (5, Pt 6 0)], [(4, (128, [Pt 901 0])), (5, (3, [I state])), (6, (58, [Sl a1 so c1])), (901, (144, [I cap1.o.ao, I cap1.o.av, I cap1.o.aC, Sl a2 cap1.o.Rows c2, Sl a3 cap1.l c3, Sl a4 cap1.done c4, V (.map (some r5))]))]⟩ fun Z a w253 X254 hS hE hr => ?_
 replace hO := hO.m2 hE
 replace h1 := h1.m2 hE
 replace h2 := h2.m1 hE
 replace h3 := h3.m1 hE
 replace h4 := h4.m2 hE
 replace h5 := h5.m2 hE
 replace hP := hP.mv hr kr
 clear hE hr
 refine ba ?_
 refine bb ?_
 refine oPb T hS 1 [(3, Pt 4 0), (4, Pt 5 0), (5, Pt 6 0), (14, Pt 901 0)] fun a hS => ?_
 have hb105 := (hS.cell (id := 901) (t := 144) (cs := [I cap1.o.ao, I cap1.o.av, I cap1.o.aC, Sl a2 cap1.o.Rows c2, Sl a3 cap1.l c3, Sl a4 cap1.done c4, V (.map (some r5))]) kr)
 have ho106 := h5
 obtain ⟨hq, hm⟩ := hm
 refine op1 (gH hS kr kr hb80 kr (Ret.lb kr (k80 _ (dt 2004 _) cap1 a2 c2 a3 c3 a4 c4 r5 2005 (Z 901) 901 hq (h2.m0 (M0.dt 2004)) (h3.m0 (M0.dt 2004)) h4.dt (h5.pN kr) (hb105.dt kr) ⟨by decide, by decide⟩)) ?_)
 intro v101 a w102 X103 hE hp hS
 clear h5
 replace hO := hO.m2 hE
 replace h1 := h1.m2 hE
 replace h2 := h2.m1 hE
 replace h3 := h3.m1 hE
 replace h4 := h4.m2 hE
 obtain ⟨hkeep, _, hp⟩ := hp
 obtain ⟨hp, hc107, h108⟩ := hp
 replace hc107 := hc107.back hb105 hkeep
 replace h108 := h108.back ho106 hkeep (fun h => h)
 clear hkeep hb105 ho106
 obtain ⟨r104, hr⟩ : ∃ r, cG cap1 = r := ⟨_, rfl⟩
 replace hm := hm r104 hr
 rw [hr] at hp
 clear hr
 subst hp
 replace hS := hS.bQ (id := 901) (t := 144) (cs := [I cap1.o.ao, I cap1.o.av, I cap1.o.aC, Sl a2 cap1.o.Rows c2, Sl a3 cap1.l c3, Sl a4 cap1.done c4, V (.map (some r5))]) kr hc107
 clear hc107
 refine eO ?_
 refine aG hS (b := r104) kr (fun hb => ?_) fun hb => ?_
 ·replace hm := hm.1 hb
  refine rP T hS ⟨[(6, Sl a1 so c1), (7, B true)], [(901, (144, [I cap1.o.ao, I cap1.o.av, I cap1.o.aC, Sl a2 cap1.o.Rows c2, Sl a3 cap1.l c3, Sl a4 cap1.done c4, V (.map (some r5))]))]⟩ fun a hS => ?_
  refine aU ?_
  exact eA T hS hO (fun c h => bu kr h) (fun c h => bw (l := (zL3c3 i1 m1 m4 m5)) h) (bq (zL3c3 i1 m1 m4 m5)) rfl (r := [.slice a1 so.length c1, .bool true]) kr (fun X' hM hC => ⟨(so, true, cap1), hm, a1, c1, a2, c2, a3, c3, a4, c4, rfl, (OS.out (f := (bq (zL3c3 i1 m1 m4 m5))) h1 hM hC kr), h2.m0 hM, h3.m0 hM, (OS.out (f := (bq (zL3c3 i1 m1 m4 m5))) h4 hM hC kr), ((hS.cell (id := 901) (t := 144) (cs := [I cap1.o.ao, I cap1.o.av, I cap1.o.aC, Sl a2 cap1.o.Rows c2, Sl a3 cap1.l c3, Sl a4 cap1.done c4, V (.map (some r5))]) kr).out (f := (bq (zL3c3 i1 m1 m4 m5))) hC kr kr (hP.at 0 rfl)), (h108.out (f := (bq (zL3c3 i1 m1 m4 m5))) hM hC kr kr)⟩)
 replace hm := hm.2 hb
 refine aJ ?_
 refine bb ?_
 refine oPb T hS 2 [(3, Pt 4 0), (4, Pt 5 0), (5, Pt 6 0), (17, Pt 901 0), (18, I state)] fun a hS => ?_
 have hb113 := (hS.cell (id := 901) (t := 144) (cs := [I cap1.o.ao, I cap1.o.av, I cap1.o.aC, Sl a2 cap1.o.Rows c2, Sl a3 cap1.l c3, Sl a4 cap1.done c4, V (.map (some r5))]) kr)
 have ho114 := h108
 refine op1 (gH hS kr kr hb81 kr (Ret.lb kr (k81 _ (dt 2004 _) state cap1 a2 c2 a3 c3 a4 c4 r5 2005 (Z 901) 901 (h2.m0 (M0.dt 2004)) (h3.m0 (M0.dt 2004)) h4.dt (h108.pN kr) (hb113.dt kr) ⟨by decide, by decide⟩)) ?_)
 intro v109 a w110 X111 hE hp hS
 clear h108
 replace hO := hO.m2 hE
 replace h1 := h1.m2 hE
 replace h2 := h2.m1 hE
 replace h3 := h3.m1 hE
 replace h4 := h4.m2 hE
 obtain ⟨hkeep, _, hp⟩ := hp
 obtain ⟨hp, hc115, h116⟩ := hp
 replace hc115 := hc115.back hb113 hkeep
 replace h116 := h116.back ho114 hkeep (fun h => h)
 clear hkeep hb113 ho114
 obtain ⟨r112, hr⟩ : ∃ r, cv state cap1 = r := ⟨_, rfl⟩
 replace hm := hm r112 hr
 rw [hr] at hp
 clear hr
 subst hp
 replace hS := hS.bQ (id := 901) (t := 144) (cs := [I cap1.o.ao, I cap1.o.av, I cap1.o.aC, Sl a2 cap1.o.Rows c2, Sl a3 cap1.l c3, Sl a4 cap1.done c4, V (.map (some r5))]) kr hc115
 clear hc115
 refine eM T hS ⟨[(3, Pt 4 0), (4, Pt 5 0), (5, Pt 6 0), (8, Pt 9 0)], [(4, (128, [Pt 901 0])), (5, (3, [I state])), (6, (58, [Sl a1 so c1])), (9, (147, [V (.int .u32 r112.done), I r112.state])), (901, (144, [I cap1.o.ao, I cap1.o.av, I cap1.o.aC, Sl a2 cap1.o.Rows c2, Sl a3 cap1.l c3, Sl a4 cap1.done c4, V (.map (some r5))]))]⟩ fun Z a w251 X252 hS hE hr => ?_
 replace hO := hO.m2 hE
 replace h1 := h1.m2 hE
 replace h2 := h2.m1 hE
 replace h3 := h3.m1 hE
 replace h4 := h4.m2 hE
 replace h116 := h116.m2 hE
 replace hP := hP.mv hr kr
 clear hE hr
 refine ba ?_
 refine ct [4, 5, 6, 9, 901] mixed hS ?_
 intro w117 X118 hS hE hD hH
 replace hO := hO.m2 hE
 replace h1 := h1.m2 hE
 replace h2 := h2.m1 hE
 replace h3 := h3.m1 hE
 replace h4 := h4.m2 hE
 replace h116 := h116.m2 hE
 refine tkb T [0, 4, 1, 2, 3] [4, 5, 6, 9, 901] hS hH #[true, true, true, true, true, false, false] 2 [(3, Pt 4 0), (4, Pt 5 0), (5, Pt 6 0), (8, Pt 9 0), (23, V (.map (some r5))), (24, V (.agg #[.int .u32 r112.done, .int .i64 r112.state]))] fun a hS => ?_
 refine only 5 kr (by rfl) (oM aI tI false (zv := .int .i64 0) (z := 0) r112 hS kr kr kr kr Try.underlying142 dQ kr rfl h116 ?_)
 intro v119 a hv hS
 replace hv : tI.R _ _ [v119] _ := hv
 cases hv
 refine bX (bl.of hS (bks := [4, 5, 6, 9, 901]) kr hD) ?_
 intro hH
 refine tkb T [6] [4, 5, 6, 9, 901] hS hH (tts 7) 0 [(3, Pt 4 0), (4, Pt 5 0), (5, Pt 6 0), (8, Pt 9 0), (26, B (decide (((ay cap1.failed r112).getD 0) > 0)))] fun a hS => ?_
 refine aM kr ?_
 replace hS := hS.slb [(3, Pt 4 0), (4, Pt 5 0), (5, Pt 6 0), (8, Pt 9 0), (26, B (decide (((ay cap1.failed r112).getD 0) > 0)))]
 refine aG hS (b := decide (((ay cap1.failed r112).getD 0) > 0)) kr (fun hb => ?_) fun hb => ?_
 ·replace hm := hm.1 hb
  refine rP T hS ⟨[(6, V (.slice none 0 0)), (7, B false)], [(901, (144, [I cap1.o.ao, I cap1.o.av, I cap1.o.aC, Sl a2 cap1.o.Rows c2, Sl a3 cap1.l c3, Sl a4 cap1.done c4, V (.map (some r5))]))]⟩ fun a hS => ?_
  refine aU ?_
  exact eA T hS hO (fun c h => bu kr h) (fun c h => bw (l := (zL3c3 i1 m1 m4 m5)) h) (bq (zL3c3 i1 m1 m4 m5)) rfl (r := [.slice none 0 0, .bool false]) kr (fun X' hM hC => ⟨([], false, cap1), hm, none, 0, a2, c2, a3, c3, a4, c4, rfl, OS.nil _ _ _ _ _, h2.m0 hM, h3.m0 hM, (OS.out (f := (bq (zL3c3 i1 m1 m4 m5))) h4 hM hC kr), ((hS.cell (id := 901) (t := 144) (cs := [I cap1.o.ao, I cap1.o.av, I cap1.o.aC, Sl a2 cap1.o.Rows c2, Sl a3 cap1.l c3, Sl a4 cap1.done c4, V (.map (some r5))]) kr).out (f := (bq (zL3c3 i1 m1 m4 m5))) hC kr kr (hP.at 0 rfl)), (h116.out (f := (bq (zL3c3 i1 m1 m4 m5))) hM hC kr kr)⟩)
 replace hm := hm.2 hb
 refine aJ ?_
 refine rPb T hS [(3, Pt 4 0), (4, Pt 5 0), (8, Pt 9 0), (9, .f (.func 82) [] [.p 4 0, .p 5 0, .p 6 0])] fun a hS => ?_
 refine bU (fun a w => ∃ (Z : Nat -> Nat) (X : Nat -> Nat) (y120 : Int) (y121 : Int) (y122 : Int) (y123 : List aS) (y127 : List aa) (y131 : List Bool) (y135 : List (bC × Int)) (a124 : Option Addr) (c125 : Nat) (a128 : Option Addr) (c129 : Nat) (a132 : Option Addr) (c133 : Nat), VC69_J1 N state Q r112 y120 y121 y122 y123 y127 y131 y135 /\ St Try.f69.ntmps ⟨[(3, Pt 4 0), (8, Pt 9 0)], [(4, (128, [Pt 901 0])), (9, (147, [V (.int .u32 r112.done), I r112.state])), (901, (144, [I y120, I y121, I y122, Sl a124 y123 c125, Sl a128 y127 c129, Sl a132 y131 c133, V (.map (some r5))]))]⟩ Z a w X /\ dR (cy (zL3c3 i1 m1 m4 m5)) w0 X0 w X /\ Pin [(901, b1)] Z /\ RS aw w X a124 y123 c125 /\ RS aq w X a128 y127 c129 /\ OS cB 4 w X 2004 a132 y131 c133 /\ OMS aI tI false w X 2005 r5 y135) ?_ ?_
 ·refine ct [4, 5, 6, 9] mixed hS ?_
  intro w178 X179 hS hE hD hH
  replace hO := hO.m2 hE
  replace h1 := h1.m2 hE
  replace h2 := h2.m1 hE
  replace h3 := h3.m1 hE
  replace h4 := h4.m2 hE
  replace h116 := h116.m2 hE
  refine tkb T [0, 4, 8, 9, 15, 1, 5, 10, 2, 6, 11] [4, 5, 6, 9] hS hH #[true, true, true, false, true, true, true, false, true, true, true, true, false, false, false, true] 5 [(3, Pt 4 0), (8, Pt 9 0), (9, .f (.func 82) [] [.p 4 0, .p 5 0, .p 6 0]), (30, Pt 901 0), (34, Pt 901 4), (36, I state), (39, Pt 901 5), (43, I 0)] fun a hS => ?_
  refine nI (fun a w => ∃ X, St Try.f69.ntmps ⟨[(3, Pt 4 0), (8, Pt 9 0), (9, .f (.func 82) [] [.p 4 0, .p 5 0, .p 6 0]), (31, V (.agg #[.int .i64 cap1.o.ao, .int .i64 cap1.o.av, .int .i64 cap1.o.aC, .slice a2 cap1.o.Rows.length c2])), (35, Sl a3 cap1.l c3), (36, I state), (40, Sl a4 cap1.done c4), (43, I 0)], [(4, (128, [Pt 901 0])), (5, (3, [I state])), (6, (58, [Sl a1 so c1])), (9, (147, [V (.int .u32 r112.done), I r112.state])), (901, (144, [I cap1.o.ao, I cap1.o.av, I cap1.o.aC, Sl a2 cap1.o.Rows c2, Sl a3 cap1.l c3, Sl a4 cap1.done c4, V (.map (some r5))]))]⟩ Z a w X /\ dR (cy (zL3c3 i1 m1 m4 m5)) w0 X0 w X /\ M0 w178 X179 w X /\ bl w178 X179 (gW [4, 5, 6, 9] ⟨[(3, Pt 4 0), (4, Pt 5 0), (8, Pt 9 0), (9, .f (.func 82) [] [.p 4 0, .p 5 0, .p 6 0])], [(4, (128, [Pt 901 0])), (5, (3, [I state])), (6, (58, [Sl a1 so c1])), (9, (147, [V (.int .u32 r112.done), I r112.state])), (901, (144, [I cap1.o.ao, I cap1.o.av, I cap1.o.aC, Sl a2 cap1.o.Rows c2, Sl a3 cap1.l c3, Sl a4 cap1.done c4, V (.map (some r5))]))]⟩) Z w /\ RS aw w X a2 cap1.o.Rows c2 /\ RS aq w X a3 cap1.l c3 /\ OS cB 4 w X 2004 a4 cap1.done c4 /\ OS au 100 w X 2001 a1 so c1 /\ OMS aI tI false w X 2005 r5 cap1.failed) #[true, true, true, true, true, true, true, true, true, true, true, true, true, false, false, true] 2 ?_ (fun H => ?_)
  ·rintro a w186 ⟨X185, hS, hO, hD, hH, h180, h181, h182, h183, h184⟩
   obtain ⟨hq, hm⟩ := hm
   refine only 13 kr (by rfl) (call hS kr kr hb85 kr (fun _ _ => rfl) (Ret.pe (k85 _ (dt 2004 _) cap1.o cap1.l state cap1.done a2 c2 a3 c3 a4 c4 4193 hq (h180.m0 (M0.dt 2004)) (h181.m0 (M0.dt 2004)) h182.dt)) ?_)
   intro v187 a w188 X189 hE hp hS
   replace hO := hO.m2 hE
   replace hD := hD.ev hE rfl
   replace h180 := h180.m1 hE
   replace h181 := h181.m1 hE
   replace h182 := h182.m2 hE
   replace h183 := h183.m2 hE
   replace h184 := h184.m2 hE
   obtain ⟨_, hback, hp⟩ := hp
   obtain ⟨a191, c192, hp, h193⟩ := hp
   replace h193 := h193.qq hback kr (fun h => h)
   clear hback
   obtain ⟨r190, hr⟩ : ∃ r, bm cap1.o cap1.l state cap1.done = r := ⟨_, rfl⟩
   replace hm := hm r190 hr
   rw [hr] at hp h193
   clear hr
   subst hp
   replace hm := hm (h193.sm kr)
   replace hS := hS.slb [(3, Pt 4 0), (8, Pt 9 0), (9, .f (.func 82) [] [.p 4 0, .p 5 0, .p 6 0]), (31, V (.agg #[.int .i64 cap1.o.ao, .int .i64 cap1.o.av, .int .i64 cap1.o.aC, .slice a2 cap1.o.Rows.length c2])), (35, Sl a3 cap1.l c3), (36, I state), (40, Sl a4 cap1.done c4), (43, I 0), (41, Sl a191 r190 c192)]
   refine bX (bl.of hS (bks := [4, 5, 6, 9]) kr hD) ?_
   intro hH
   refine tkb T [14] [4, 5, 6, 9] hS hH (tts 16) 0 [(3, Pt 4 0), (8, Pt 9 0), (9, .f (.func 82) [] [.p 4 0, .p 5 0, .p 6 0]), (41, Sl a191 r190 c192), (42, I (lN r190)), (43, I 0)] fun a hS => ?_
   refine aM kr ?_
   replace hS := hS.slb [(3, Pt 4 0), (8, Pt 9 0), (9, .f (.func 82) [] [.p 4 0, .p 5 0, .p 6 0]), (41, Sl a191 r190 c192), (42, I (lN r190)), (43, I 0)]
   refine aO ?_
   obtain ⟨X194, hE, hF⟩ := h183.freeze (by decide)
   replace hS := hS.ev hE (bW kr)
   replace hO := hO.m2 hE
   replace h180 := h180.m1 hE
   replace h181 := h181.m1 hE
   replace h182 := h182.m2 hE
   replace h184 := h184.m2 hE
   replace h193 := h193.m2 hE
   have h195 := hF; clear hE hF
   obtain ⟨I1, μ1, hm0, hm⟩ := hm
   refine b8 (σ := (List ah) × Int × Int × Int × Int × (List aS) × (List aa) × (List Bool) × (List (bC × Int))) (fun s a w => ∃ Z X a197 c198 a206 c207 a210 c211 a214 c215, I1 s.1 s.2.1 s.2.2.1 s.2.2.2.1 s.2.2.2.2.1 s.2.2.2.2.2.1 s.2.2.2.2.2.2.1 s.2.2.2.2.2.2.2.1 s.2.2.2.2.2.2.2.2 /\ St Try.f69.ntmps ⟨[(3, Pt 4 0), (8, Pt 9 0), (9, .f (.func 82) [] [.p 4 0, .p 5 0, .p 6 0]), (41, Sl a197 s.1 c198), (42, I (lN r190)), (43, I s.2.1)], [(4, (128, [Pt 901 0])), (5, (3, [I state])), (6, (58, [Sl a1 so c1])), (9, (147, [V (.int .u32 r112.done), I r112.state])), (901, (144, [I s.2.2.1, I s.2.2.2.1, I s.2.2.2.2.1, Sl a206 s.2.2.2.2.2.1 c207, Sl a210 s.2.2.2.2.2.2.1 c211, Sl a214 s.2.2.2.2.2.2.2.1 c215, V (.map (some r5))]))]⟩ Z a w X /\ dR (cy (zL3c3 i1 m1 m4 m5)) w0 X0 w X /\ Pin [(901, b1)] Z /\ OS au 100 w X 4193 a197 s.1 c198 /\ RS au w X a1 so c1 /\ RS aw w X a206 s.2.2.2.2.2.1 c207 /\ RS aq w X a210 s.2.2.2.2.2.2.1 c211 /\ OS cB 4 w X 2004 a214 s.2.2.2.2.2.2.2.1 c215 /\ OMS aI tI false w X 2005 r5 s.2.2.2.2.2.2.2.2) (fun s => μ1 s.1 s.2.1 s.2.2.1 s.2.2.2.1 s.2.2.2.2.1 s.2.2.2.2.2.1 s.2.2.2.2.2.2.1 s.2.2.2.2.2.2.2.1 s.2.2.2.2.2.2.2.2) (⟨r190, 0, cap1.o.ao, cap1.o.av, cap1.o.aC, cap1.o.Rows, cap1.l, cap1.done, cap1.failed⟩) ?_ ?_
   ·exact ⟨Z, _, a191, c192, a2, c2, a3, c3, a4, c4, hm0, hS.sl _, hO, hP, h193, h195, h180, h181, h182, h184⟩
   rintro ⟨y196, y200, y202, y203, y204, y205, y209, y213, y217⟩ a w248 ⟨Z, X247, a197, c198, a206, c207, a210, c211, a214, c215, hI, hS, hO, hP, h199, h201, h208, h212, h216, h218⟩
   replace hm := hm y196 y200 y202 y203 y204 y205 y209 y213 y217 hI
   clear hI hm0
   refine rPb T hS [(3, Pt 4 0), (8, Pt 9 0), (9, .f (.func 82) [] [.p 4 0, .p 5 0, .p 6 0]), (41, Sl a197 y196 c198), (42, I (lN r190)), (43, I y200), (44, B (decide (y200 < (lN r190))))] fun a hS => ?_
   refine ba ?_
   refine aG hS (b := decide (y200 < (lN r190))) kr (fun hb => ?_) fun hb => ?_
   ·replace hm := hm.1 hb
    refine aJ (ba ?_)
    refine aO ?_
    refine bb ?_
    obtain ⟨hq222, hm⟩ := hm
    refine op1 (ie (E := 100) (k := .i64) T hS kr kr kr kr h199 kr kr hq222.1 hq222.2 ?_)
    intro A219 a h221 h220 hS
    refine op1 (oU T hS kr kr kr h220 kr kr ?_)
    intro v223 a hv hS
    subst hv
    refine eM T hS ⟨[(3, Pt 4 0), (8, Pt 9 0), (9, .f (.func 82) [] [.p 4 0, .p 5 0, .p 6 0]), (11, Pt 12 0), (41, Sl a197 y196 c198), (42, I (lN r190)), (43, I y200)], [(4, (128, [Pt 901 0])), (5, (3, [I state])), (6, (58, [Sl a1 so c1])), (9, (147, [V (.int .u32 r112.done), I r112.state])), (12, (100, (cK (gi y196 y200)))), (901, (144, [I y202, I y203, I y204, Sl a206 y205 c207, Sl a210 y209 c211, Sl a214 y213 c215, V (.map (some r5))]))]⟩ fun Z a w245 X246 hS hE hr => ?_
    replace hO := hO.m2 hE
    replace h199 := h199.m2 hE
    replace h201 := h201.m1 hE
    replace h208 := h208.m1 hE
    replace h212 := h212.m1 hE
    replace h216 := h216.m2 hE
    replace h218 := h218.m2 hE
    replace hP := hP.mv hr kr
    clear hE hr
    refine bb ?_
    refine oP T hS 2 ⟨[(3, Pt 4 0), (8, Pt 9 0), (9, .f (.func 82) [] [.p 4 0, .p 5 0, .p 6 0]), (41, Sl a197 y196 c198), (42, I (lN r190)), (43, I y200), (48, .f (.func 82) [] [.p 4 0, .p 5 0, .p 6 0]), (49, V (.agg #[.int .i64 ((gi y196 y200).Oper), .int .i64 ((gi y196 y200).Result)]))], [(4, (128, [Pt 901 0])), (5, (3, [I state])), (6, (58, [Sl a1 so c1])), (9, (147, [V (.int .u32 r112.done), I r112.state])), (901, (144, [I y202, I y203, I y204, Sl a206 y205 c207, Sl a210 y209 c211, Sl a214 y213 c215, V (.map (some r5))]))]⟩ fun a hS => ?_
    obtain ⟨hq, hm⟩ := hm
    refine op1 (fR (fi := []) (cp := [.p 4 0, .p 5 0, .p 6 0]) hS kr kr hb82 kr kr (k82 _ _ (gi y196 y200) (⟨(⟨y202, y203, y204, y205⟩ : ai), y209, y213, y217⟩ : aP) state so a206 c207 a210 c211 a214 c215 2004 r5 2005 a1 c1 2001 (Z 4) 4 (Z 901) 901 (Z 5) 5 (Z 6) 6 hq.1 hq.2 h208 h212 h216 h218 h201 (hS.cell (id := 4) (t := 128) (cs := [Pt 901 0]) kr) (hS.cell (id := 901) (t := 144) (cs := [I y202, I y203, I y204, Sl a206 y205 c207, Sl a210 y209 c211, Sl a214 y213 c215, V (.map (some r5))]) kr) (hS.cell (id := 5) (t := 3) (cs := [I state]) kr) (hS.cell (id := 6) (t := 58) (cs := [Sl a1 so c1]) kr) ⟨by decide, by decide⟩) ?_)
    intro v224 a w225 X226 hE hp hS
    clear h218
    clear h216
    replace hO := hO.m2 hE
    replace h199 := h199.m2 hE
    replace h201 := h201.m1 hE
    replace h208 := h208.m1 hE
    replace h212 := h212.m1 hE
    obtain ⟨a228, c229, a231, c232, a234, c235, a237, c238, hp, h230, h233, h236, h239, hc241, hc242, h240, hc243, hc244⟩ := hp
    obtain ⟨r227, hr⟩ : ∃ r, aW (gi y196 y200) (⟨(⟨y202, y203, y204, y205⟩ : ai), y209, y213, y217⟩ : aP) state so = r := ⟨_, rfl⟩
    replace hm := hm r227 hr
    rw [hr] at hp h230 h233 h236 h239 hc242 h240
    clear hr
    subst hp
    replace hm := hm (h230.sm kr)
    replace hm := hm (h233.sm kr)
    replace hm := hm (h236.sm kr)
    replace hm := hm (h239.sm kr)
    replace hS := hS.bQ (id := 4) (t := 128) (cs := [Pt 901 0]) kr hc241
    replace hS := hS.bQ (id := 901) (t := 144) (cs := [I r227.2.2.o.ao, I r227.2.2.o.av, I r227.2.2.o.aC, Sl a231 r227.2.2.o.Rows c232, Sl a234 r227.2.2.l c235, Sl a237 r227.2.2.done c238, V (.map (some r5))]) kr hc242
    replace hS := hS.bQ (id := 5) (t := 3) (cs := [I state]) kr hc243
    replace hS := hS.bQ (id := 6) (t := 58) (cs := [Sl a1 so c1]) kr hc244
    clear hc241 hc242 hc243 hc244
    refine ePb T hS [(3, Pt 4 0), (8, Pt 9 0), (9, .f (.func 82) [] [.p 4 0, .p 5 0, .p 6 0]), (12, Sl a228 r227.1 c229), (13, B r227.2.1), (41, Sl a197 y196 c198), (42, I (lN r190)), (43, I y200)] fun a hS => ?_
    refine rPb T hS [(3, Pt 4 0), (8, Pt 9 0), (9, .f (.func 82) [] [.p 4 0, .p 5 0, .p 6 0]), (12, Sl a228 r227.1 c229), (41, Sl a197 y196 c198), (42, I (lN r190)), (43, I y200), (53, B r227.2.1)] fun a hS => ?_
    refine aG hS (b := r227.2.1) kr (fun hb => ?_) fun hb => ?_
    ·replace hm := hm.1 hb
     refine rP T hS ⟨[(6, Sl a228 r227.1 c229), (7, B true)], [(901, (144, [I r227.2.2.o.ao, I r227.2.2.o.av, I r227.2.2.o.aC, Sl a231 r227.2.2.o.Rows c232, Sl a234 r227.2.2.l c235, Sl a237 r227.2.2.done c238, V (.map (some r5))]))]⟩ fun a hS => ?_
     refine aU ?_
     exact eA T hS hO (fun c h => bu kr h) (fun c h => bw (l := (zL3c3 i1 m1 m4 m5)) h) (bq (zL3c3 i1 m1 m4 m5)) rfl (r := [.slice a228 r227.1.length c229, .bool true]) kr (fun X' hM hC => ⟨(r227.1, true, r227.2.2), hm, a228, c229, a231, c232, a234, c235, a237, c238, rfl, (OS.out (f := (bq (zL3c3 i1 m1 m4 m5))) h230 hM hC kr), h233.m0 hM, h236.m0 hM, (OS.out (f := (bq (zL3c3 i1 m1 m4 m5))) h239 hM hC kr), ((hS.cell (id := 901) (t := 144) (cs := [I r227.2.2.o.ao, I r227.2.2.o.av, I r227.2.2.o.aC, Sl a231 r227.2.2.o.Rows c232, Sl a234 r227.2.2.l c235, Sl a237 r227.2.2.done c238, V (.map (some r5))]) kr).out (f := (bq (zL3c3 i1 m1 m4 m5))) hC kr kr (hP.at 0 rfl)), (h240.out (f := (bq (zL3c3 i1 m1 m4 m5))) hM hC kr kr)⟩)
    replace hm := hm.2 hb
    refine aJ ?_
    refine region (ePb T hS [(3, Pt 4 0), (8, Pt 9 0), (9, .f (.func 82) [] [.p 4 0, .p 5 0, .p 6 0]), (41, Sl a197 y196 c198), (42, I (lN r190)), (43, I (wR (y200 + 1)))] fun a hS => ?_)
    exact ⟨⟨y196, wR (y200 + 1), r227.2.2.o.ao, r227.2.2.o.av, r227.2.2.o.aC, r227.2.2.o.Rows, r227.2.2.l, r227.2.2.done, r227.2.2.failed⟩, ⟨Z, _, a197, c198, a231, c232, a234, c235, a237, c238, hm.1, hS.sl _, hO, hP, h199, h201, h233, h236, h239, h240⟩, hm.2⟩
   replace hm := hm.2 hb
   refine b0 (by rfl) ?_
   exact ⟨Z, _, y202, y203, y204, y205, y209, y213, y217, a206, c207, a210, c211, a214, c215, hm, hS.sl _, hO, hP, h208, h212, h216, h218⟩
  clear hm
  refine ku (is := [3, 7, 12]) kr (by decide) ?_
  intro i hi
  rcases qy hi with rfl | rfl | rfl
  ·refine fK (by rfl) (eJ T hS kr kr kr (sv := V (.agg #[.int .i64 cap1.o.ao, .int .i64 cap1.o.av, .int .i64 cap1.o.aC, .slice a2 cap1.o.Rows.length c2])) kr ?_)
   intro a hS
   refine bX (bl.of hS (bks := [4, 5, 6, 9]) kr hD) ?_
   intro hH
   refine ku (is := [7, 12]) kr (by decide) ?_
   intro i hi
   rcases nY hi with rfl | rfl
   ·refine fK (by rfl) (eJ T hS kr kr kr (sv := Sl a3 cap1.l c3) kr ?_)
    intro a hS
    refine bX (bl.of hS (bks := [4, 5, 6, 9]) kr hD) ?_
    intro hH
    refine only 12 kr (by rfl) (eJ T hS kr kr kr (sv := Sl a4 cap1.done c4) kr ?_)
    intro a hS
    refine bX (bl.of hS (bks := [4, 5, 6, 9]) kr hD) ?_
    intro hH
    exact H _ _ ⟨_, hS.sl _, hO, hD, hH, h2, h3, h4, h1, h116⟩
   refine fK (by rfl) (eJ T hS kr kr kr (sv := Sl a4 cap1.done c4) kr ?_)
   intro a hS
   refine bX (bl.of hS (bks := [4, 5, 6, 9]) kr hD) ?_
   intro hH
   refine only 7 kr (by rfl) (eJ T hS kr kr kr (sv := Sl a3 cap1.l c3) kr ?_)
   intro a hS
   refine bX (bl.of hS (bks := [4, 5, 6, 9]) kr hD) ?_
   intro hH
   exact H _ _ ⟨_, hS.sl _, hO, hD, hH, h2, h3, h4, h1, h116⟩
  ·refine fK (by rfl) (eJ T hS kr kr kr (sv := Sl a3 cap1.l c3) kr ?_)
   intro a hS
   refine bX (bl.of hS (bks := [4, 5, 6, 9]) kr hD) ?_
   intro hH
   refine ku (is := [3, 12]) kr (by decide) ?_
   intro i hi
   rcases nY hi with rfl | rfl
   ·refine fK (by rfl) (eJ T hS kr kr kr (sv := V (.agg #[.int .i64 cap1.o.ao, .int .i64 cap1.o.av, .int .i64 cap1.o.aC, .slice a2 cap1.o.Rows.length c2])) kr ?_)
    intro a hS
    refine bX (bl.of hS (bks := [4, 5, 6, 9]) kr hD) ?_
    intro hH
    refine only 12 kr (by rfl) (eJ T hS kr kr kr (sv := Sl a4 cap1.done c4) kr ?_)
    intro a hS
    refine bX (bl.of hS (bks := [4, 5, 6, 9]) kr hD) ?_
    intro hH
    exact H _ _ ⟨_, hS.sl _, hO, hD, hH, h2, h3, h4, h1, h116⟩
   refine fK (by rfl) (eJ T hS kr kr kr (sv := Sl a4 cap1.done c4) kr ?_)
   intro a hS
   refine bX (bl.of hS (bks := [4, 5, 6, 9]) kr hD) ?_
   intro hH
   refine only 3 kr (by rfl) (eJ T hS kr kr kr (sv := V (.agg #[.int .i64 cap1.o.ao, .int .i64 cap1.o.av, .int .i64 cap1.o.aC, .slice a2 cap1.o.Rows.length c2])) kr ?_)
   intro a hS
   refine bX (bl.of hS (bks := [4, 5, 6, 9]) kr hD) ?_
   intro hH
   exact H _ _ ⟨_, hS.sl _, hO, hD, hH, h2, h3, h4, h1, h116⟩
  refine fK (by rfl) (eJ T hS kr kr kr (sv := Sl a4 cap1.done c4) kr ?_)
  intro a hS
  refine bX (bl.of hS (bks := [4, 5, 6, 9]) kr hD) ?_
  intro hH
  refine ku (is := [3, 7]) kr (by decide) ?_
  intro i hi
  rcases nY hi with rfl | rfl
  ·refine fK (by rfl) (eJ T hS kr kr kr (sv := V (.agg #[.int .i64 cap1.o.ao, .int .i64 cap1.o.av, .int .i64 cap1.o.aC, .slice a2 cap1.o.Rows.length c2])) kr ?_)
   intro a hS
   refine bX (bl.of hS (bks := [4, 5, 6, 9]) kr hD) ?_
   intro hH
   refine only 7 kr (by rfl) (eJ T hS kr kr kr (sv := Sl a3 cap1.l c3) kr ?_)
   intro a hS
   refine bX (bl.of hS (bks := [4, 5, 6, 9]) kr hD) ?_
   intro hH
   exact H _ _ ⟨_, hS.sl _, hO, hD, hH, h2, h3, h4, h1, h116⟩
  refine fK (by rfl) (eJ T hS kr kr kr (sv := Sl a3 cap1.l c3) kr ?_)
  intro a hS
  refine bX (bl.of hS (bks := [4, 5, 6, 9]) kr hD) ?_
  intro hH
  refine only 3 kr (by rfl) (eJ T hS kr kr kr (sv := V (.agg #[.int .i64 cap1.o.ao, .int .i64 cap1.o.av, .int .i64 cap1.o.aC, .slice a2 cap1.o.Rows.length c2])) kr ?_)
  intro a hS
  refine bX (bl.of hS (bks := [4, 5, 6, 9]) kr hD) ?_
  intro hH
  exact H _ _ ⟨_, hS.sl _, hO, hD, hH, h2, h3, h4, h1, h116⟩
 rintro a w250 ⟨Z, X249, y120, y121, y122, y123, y127, y131, y135, a124, c125, a128, c129, a132, c133, hm, hS, hO, hP, h126, h130, h134, h136⟩
 unfold VC69_J1 at hm
 refine bU (fun a w => ∃ (Z : Nat -> Nat) (X : Nat -> Nat) (y139 : List Bool) (y143 : List (bC × Int)) (a140 : Option Addr) (c141 : Nat), VC69_J2 N Q y120 y121 y122 y123 y127 y139 y143 /\ St Try.f69.ntmps ⟨[], [(901, (144, [I y120, I y121, I y122, Sl a124 y123 c125, Sl a128 y127 c129, Sl a140 y139 c141, V (.map (some r5))]))]⟩ Z a w X /\ dR (cy (zL3c3 i1 m1 m4 m5)) w0 X0 w X /\ Pin [(901, b1)] Z /\ RS aw w X a124 y123 c125 /\ RS aq w X a128 y127 c129 /\ OS cB 4 w X 2004 a140 y139 c141 /\ OMS aI tI false w X 2005 r5 y143) ?_ ?_
 ·refine bb ?_
  refine oPb T hS 2 [(3, Pt 4 0), (8, Pt 9 0), (56, V (.agg #[.int .u32 r112.done, .int .i64 r112.state])), (57, V (.agg #[.int .u32 0, .int .i64 0]))] fun a hS => ?_
  refine op1 (structEq (op := .neq) (xs := [.int .u32 r112.done, .int .i64 r112.state]) (ys := [.int .u32 0, .int .i64 0]) (r := (r112.done == 0 && (r112.state == 0 && true))) (b := (!(r112.done == 0 && (r112.state == 0 && true)))) T hS kr kr kr kr kr kr kr kr ?_)
  intro a hS
  refine eO ?_
  refine aG hS (b := (!(r112.done == 0 && (r112.state == 0 && true)))) kr (fun hb => ?_) fun hb => ?_
  ·replace hm := hm.1 hb
   refine fj [4, 9, 901] mixed hS ?_
   intro w145 X146 hS hE hD hH
   replace hO := hO.m2 hE
   replace h126 := h126.m1 hE
   replace h130 := h130.m1 hE
   replace h134 := h134.m2 hE
   replace h136 := h136.m2 hE
   refine tkb T [0, 4, 1, 2, 3] [4, 9, 901] hS hH #[true, true, true, true, true, false, false, false, false, false] 5 [(62, V (.map (some r5))), (63, V (.agg #[.int .u32 r112.done, .int .i64 r112.state]))] fun a hS => ?_
   refine nI (fun a w => ∃ X b158, St Try.f69.ntmps ⟨[(62, V (.map (some r5))), (65, I (wR (((ay y135 r112).getD 0) + 1))), (67, I ((b158 : Nat) : Int))], [(4, (128, [Pt 901 0])), (9, (147, [V (.int .u32 r112.done), I r112.state])), (901, (144, [I y120, I y121, I y122, Sl a124 y123 c125, Sl a128 y127 c129, Sl a132 y131 c133, V (.map (some r5))]))]⟩ Z a w X /\ dR (cy (zL3c3 i1 m1 m4 m5)) w0 X0 w X /\ M0 w145 X146 w X /\ bl w145 X146 (gW [4, 9, 901] ⟨[(3, Pt 4 0), (8, Pt 9 0)], [(4, (128, [Pt 901 0])), (9, (147, [V (.int .u32 r112.done), I r112.state])), (901, (144, [I y120, I y121, I y122, Sl a124 y123 c125, Sl a128 y127 c129, Sl a132 y131 c133, V (.map (some r5))]))]⟩) Z w /\ OME aI tI false w X 2005 r5 y135 r112 0 b158 /\ RS aw w X a124 y123 c125 /\ RS aq w X a128 y127 c129 /\ OS cB 4 w X 2004 a132 y131 c133) #[true, true, true, true, true, true, true, true, true, false] 1 ?_ (fun H => ?_)
   ·rintro a w173 ⟨X172, b158, hS, hO, hD, hH, h157, h159, h160, h161⟩
    refine only 9 kr (by rfl) (qz aI tI false (v := I (wR (((ay y135 r112).getD 0) + 1))) (u := wR (((ay y135 r112).getD 0) + 1)) r112 hS kr kr kr kr dQ kr h157 (fun _ => rfl) ?_)
    intro a w174 hE h175 hS
    clear h157
    replace hO := hO.m2 hE
    replace hD := hD.ev hE rfl
    replace h159 := h159.m1 hE
    replace h160 := h160.m1 hE
    replace h161 := h161.m2 hE
    refine bX (bl.of hS (bks := [4, 9, 901]) kr hD) ?_
    intro hH
    refine aM kr ?_
    replace hS := hS.sl ⟨[], [(901, (144, [I y120, I y121, I y122, Sl a124 y123 c125, Sl a128 y127 c129, Sl a132 y131 c133, V (.map (some r5))]))]⟩
    exact ⟨Z, _, y131, cg y135 r112 (wR (((ay y135 r112).getD 0) + 1)), a132, c133, hm, hS.sl _, hO, hP, h159, h160, h161, h175⟩
   clear hm
   refine ku (is := [5, 7]) kr (by decide) ?_
   intro i hi
   rcases nY hi with rfl | rfl
   ·refine fK (by rfl) (oM aI tI false (zv := .int .i64 0) (z := 0) r112 hS kr kr kr kr Try.underlying142 dQ kr rfl h136 ?_)
    intro v162 a hv hS
    replace hv : tI.R _ _ [v162] _ := hv
    cases hv
    refine bX (bl.of hS (bks := [4, 9, 901]) kr hD) ?_
    intro hH
    refine tkb T [6] [4, 9, 901] hS hH #[true, true, true, true, true, true, true, false, false, false] 3 [(62, V (.map (some r5))), (63, V (.agg #[.int .u32 r112.done, .int .i64 r112.state])), (65, I (wR (((ay y135 r112).getD 0) + 1)))] fun a hS => ?_
    refine only 7 kr (by rfl) (pM aI tI false (zv := .int .i64 0) (z := 0) r112 hS kr kr kr kr Try.underlying142 dQ kr rfl kr h136 ?_)
    intro v163 b164 a w165 hE h166 hv hS
    clear h136
    replace hv : tI.R _ _ [v163] _ := hv
    cases hv
    replace hO := hO.m2 hE
    replace hD := hD.ev hE rfl
    replace h126 := h126.m1 hE
    replace h130 := h130.m1 hE
    replace h134 := h134.m2 hE
    refine bX (bl.of hS (bks := [4, 9, 901]) kr hD) ?_
    intro hH
    refine tkb T [8] [4, 9, 901] hS hH #[true, true, true, true, true, true, true, true, true, false] 1 [(62, V (.map (some r5))), (65, I (wR (((ay y135 r112).getD 0) + 1))), (67, I ((b164 : Nat) : Int))] fun a hS => ?_
    exact H _ _ ⟨_, b164, hS.sl _, hO, hD, hH, h166, h126, h130, h134⟩
   refine fK (by rfl) (pM aI tI false (zv := .int .i64 0) (z := 0) r112 hS kr kr kr kr Try.underlying142 dQ kr rfl kr h136 ?_)
   intro v167 b168 a w169 hE h170 hv hS
   clear h136
   replace hv : tI.R _ _ [v167] _ := hv
   cases hv
   replace hO := hO.m2 hE
   replace hD := hD.ev hE rfl
   replace h126 := h126.m1 hE
   replace h130 := h130.m1 hE
   replace h134 := h134.m2 hE
   refine bX (bl.of hS (bks := [4, 9, 901]) kr hD) ?_
   intro hH
   refine tkb T [8] [4, 9, 901] hS hH #[true, true, true, true, true, false, false, true, true, false] 3 [(62, V (.map (some r5))), (63, V (.agg #[.int .u32 r112.done, .int .i64 r112.state])), (67, I ((b168 : Nat) : Int))] fun a hS => ?_
   refine only 5 kr (by rfl) (p6 aI tI false r112 hS kr kr kr kr Try.underlying142 dQ h170 ?_)
   intro v171 a hv hS
   replace hv : tI.R _ _ [v171] _ := hv
   cases hv
   refine bX (bl.of hS (bks := [4, 9, 901]) kr hD) ?_
   intro hH
   refine tkb T [6] [4, 9, 901] hS hH #[true, true, true, true, true, true, true, true, true, false] 1 [(62, V (.map (some r5))), (65, I (wR (((ay y135 r112).getD 0) + 1))), (67, I ((b168 : Nat) : Int))] fun a hS => ?_
   exact H _ _ ⟨_, b168, hS.sl _, hO, hD, hH, h170, h126, h130, h134⟩
  replace hm := hm.2 hb
  refine aJ ?_
  exact ⟨Z, _, y131, y135, a132, c133, hm, hS.sl _, hO, hP, h126, h130, h134, h136⟩
 rintro a w177 ⟨Z, X176, y139, y143, a140, c141, hm, hS, hO, hP, h137, h138, h142, h144⟩
 unfold VC69_J2 at hm
 refine rPb T hS [(6, V (.slice none 0 0)), (7, B false)] fun a hS => ?_
 refine aU ?_
 exact eA T hS hO (fun c h => bu kr h) (fun c h => bw (l := (zL3c3 i1 m1 m4 m5)) h) (bq (zL3c3 i1 m1 m4 m5)) rfl (r := [.slice none 0 0, .bool false]) kr (fun X' hM hC => ⟨([], false, (⟨(⟨y120, y121, y122, y123⟩ : ai), y127, y139, y143⟩ : aP)), hm, none, 0, a124, c125, a128, c129, a140, c141, rfl, OS.nil _ _ _ _ _, h137.m0 hM, h138.m0 hM, (OS.out (f := (bq (zL3c3 i1 m1 m4 m5))) h142 hM hC kr), ((hS.cell (id := 901) (t := 144) (cs := [I y120, I y121, I y122, Sl a124 y123 c125, Sl a128 y127 c129, Sl a140 y139 c141, V (.map (some r5))]) kr).out (f := (bq (zL3c3 i1 m1 m4 m5))) hC kr kr (hP.at 0 rfl)), (h144.out (f := (bq (zL3c3 i1 m1 m4 m5))) hM hC kr kr)⟩)
theorem C69 (N : Nat) (k80 : S80) (k81 : S81) (k82 : S82N N) (k85 : S85) (v : ∀ (state : Int) (so : List ah) (cap1 : aP), kL state so cap1 -> iY state so cap1 < N + 1 -> VC69 N state so cap1 (fun r => r = aB state so cap1)) : S69N (N + 1) := by
 intro w X state so cap1 a1 c1 m1 a2 c2 a3 c3 a4 c4 m4 r5 m5  b1 i1 hp hms h1 h2 h3 h4 h5 hc1 hA
 refine (W69 N k80 k81 k82 k85 w X state so cap1 a1 c1 m1 a2 c2 a3 c3 a4 c4 m4 r5 m5  b1 i1 _ (v state so cap1 hp hms) h1 h2 h3 h4 h5 hc1 hA).mono ?_
 rintro _ _ _ _ ⟨r, rfl, h⟩
 exact h
end Go.Proofs.Yteahldlmkheleaa
