/- Walks of the functions: each returns what its condition asks. -/
import Derived.Test.YteahldlmkheleaaLWalksS
set_option linter.all false
namespace Go.Proofs.Yteahldlmkheleaa
open Go Go.Sv
abbrev zL3g0 (col1 : Nat) : Nat -> Nat := fun c => (bif Nat.beq c 1017 then col1 else c)
abbrev zL3g1 (i1 i2 i3 i4 : Nat) : List (Nat × Nat) := [(i1, 901), (i2, 902), (i3, 903), (i4, 904)]
set_option maxHeartbeats 1000000
theorem W40 (k56 : S56) (k57 : S57) (w0) (X0) (l_ : List aa) (rows : List (List ah)) (a1) (c1) (a2) (c2) (Q : (List ah) × (List (Int × Int)) -> Prop) (hm : VC40 l_ rows Q) (h1 : RS aq w0 X0 a1 l_ c1) (h2 : RS (dn au) w0 X0 a2 rows c2) :
  Ret Try.prog 40 #[.slice a1 l_.length c1, .slice a2 rows.length c2] aF w0 X0 (fun w X' v => ∃ r, Q r /\ ∃ ra1 rc1 ra2 rc2, v = .tuple #[.slice ra1 r.1.length rc1, .slice ra2 r.2.length rc2] /\ RS au w X' ra1 r.1 rc1 /\ RS tP2 w X' ra2 r.2 rc2) := by
 unfold VC40 at hm
 replace hm := hm (h1.sm kr)
 replace hm := hm (h2.sm kr)
 refine enter Try.func40 rfl (vals := [.slice a1 l_.length c1, .slice a2 rows.length c2]) kr ?_
 intro Z a hS hO hM
 replace h1 := h1.m0 hM
 replace h2 := h2.m0 hM
 refine rPb T hS [(0, Sl a1 l_ c1), (1, Sl a2 rows c2)] fun a hS => ?_
 refine bb ?_
 refine oPb T hS 1 [(0, Sl a1 l_ c1), (1, Sl a2 rows c2), (16, Sl a2 rows c2)] fun a hS => ?_
 obtain ⟨hq, hm⟩ := hm
 refine op1 (call hS kr kr hb56 kr (fun _ _ => rfl) (k56 _ _ rows a2 c2 hq h2) ?_)
 intro v101 a w102 X103 hE hp hS
 replace hO := hO.m2 hE
 replace h1 := h1.m1 hE
 replace h2 := h2.m1 hE
 obtain ⟨a105, c106, hp, h107⟩ := hp
 obtain ⟨r104, hr⟩ : ∃ r, bE rows = r := ⟨_, rfl⟩
 replace hm := hm r104 hr
 rw [hr] at hp h107
 clear hr
 subst hp
 replace hm := hm (h107.sm kr)
 refine ePb T hS [(0, Sl a1 l_ c1), (1, Sl a2 rows c2), (6, Sl a105 r104 c106)] fun a hS => ?_
 refine rPb T hS [(0, Sl a1 l_ c1), (1, Sl a2 rows c2), (6, Sl a105 r104 c106), (7, V (.slice none 0 0))] fun a hS => ?_
 refine rPb T hS [(0, Sl a1 l_ c1), (1, Sl a2 rows c2), (6, Sl a105 r104 c106), (7, V (.slice none 0 0)), (8, I 0)] fun a hS => ?_
 refine bU (fun a w => ∃ (Z : Nat -> Nat) (X : Nat -> Nat) (y110 : List (Int × Int)) (a111 : Option Addr) (c112 : Nat), VC40_J1 l_ Q r104 y110 /\ St Try.f40.ntmps ⟨[(0, Sl a1 l_ c1), (6, Sl a105 r104 c106), (7, Sl a111 y110 c112)], []⟩ Z a w X /\ Old w0 X0 w X /\ RS aq w X a1 l_ c1 /\ RS au w X a105 r104 c106 /\ OS tP2 116 w X 1006 a111 y110 c112) ?_ ?_
 ·refine rPb T hS [(0, Sl a1 l_ c1), (6, Sl a105 r104 c106), (7, V (.slice none 0 0)), (8, I 0), (18, Sl a2 rows c2), (19, I (lN rows)), (20, I 0)] fun a hS => ?_
  refine aO ?_
  obtain ⟨I3, μ3, hm0, hm⟩ := hm
  refine b8 (σ := (List (Int × Int)) × Int × Int) (fun s a w => ∃ Z X a197 c198, I3 s.1 s.2.1 s.2.2 /\ St Try.f40.ntmps ⟨[(0, Sl a1 l_ c1), (6, Sl a105 r104 c106), (7, Sl a197 s.1 c198), (8, I s.2.1), (18, Sl a2 rows c2), (19, I (lN rows)), (20, I s.2.2)], []⟩ Z a w X /\ Old w0 X0 w X /\ RS aq w X a1 l_ c1 /\ RS au w X a105 r104 c106 /\ OS tP2 116 w X 1006 a197 s.1 c198 /\ RS (dn au) w X a2 rows c2) (fun s => μ3 s.1 s.2.1 s.2.2) (⟨[], 0, 0⟩) ?_ ?_
  ·exact ⟨Z, _, none, 0, hm0, hS.sl _, hO, h1, h107, (OS.nil _ _ _ _ _), h2⟩
  rintro ⟨y196, y200, y202⟩ a w240 ⟨Z, X239, a197, c198, hI, hS, hO, h194, h195, h199, h201⟩
  replace hm := hm y196 y200 y202 hI
  clear hI hm0
  refine rPb T hS [(0, Sl a1 l_ c1), (6, Sl a105 r104 c106), (7, Sl a197 y196 c198), (8, I y200), (18, Sl a2 rows c2), (19, I (lN rows)), (20, I y202), (21, B (decide (y202 < (lN rows))))] fun a hS => ?_
  refine ba ?_
  refine aG hS (b := decide (y202 < (lN rows))) kr (fun hb => ?_) fun hb => ?_
  ·replace hm := hm.1 hb
   refine aJ (ba ?_)
   refine aO ?_
   refine bb ?_
   obtain ⟨hq, hm⟩ := hm
   refine op1 (index (e := 58) (k := .i64) T hS kr kr kr kr h201 kr kr hq.1 hq.2 ?_)
   intro A203 a h204 hS
   refine op1 (ec T hS kr kr kr h204 rfl kr ?_)
   intro v205 a hv hS
   obtain ⟨a206, c207, hv, h208⟩ := hv
   cases hv
   replace hm := hm (h208.sm kr)
   refine ePb T hS [(0, Sl a1 l_ c1), (6, Sl a105 r104 c106), (7, Sl a197 y196 c198), (8, I y200), (10, Sl a206 (gi rows y202) c207), (18, Sl a2 rows c2), (19, I (lN rows)), (20, I y202)] fun a hS => ?_
   refine bU (fun a w => ∃ (Z : Nat -> Nat) (X : Nat -> Nat) (y211 : List (Int × Int)) (a212 : Option Addr) (c213 : Nat), VC40_J5 rows I3 μ3 y196 y200 y202 y211 /\ St Try.f40.ntmps ⟨[(0, Sl a1 l_ c1), (6, Sl a105 r104 c106), (7, Sl a212 y211 c213), (8, I y200), (10, Sl a206 (gi rows y202) c207), (18, Sl a2 rows c2), (19, I (lN rows)), (20, I y202)], []⟩ Z a w X /\ Old w0 X0 w X /\ RS aq w X a1 l_ c1 /\ RS au w X a105 r104 c106 /\ OS tP2 116 w X 1006 a212 y211 c213 /\ RS au w X a206 (gi rows y202) c207 /\ RS (dn au) w X a2 rows c2) ?_ ?_
   ·refine rPb T hS [(0, Sl a1 l_ c1), (6, Sl a105 r104 c106), (7, Sl a197 y196 c198), (8, I y200), (10, Sl a206 (gi rows y202) c207), (11, I 1), (18, Sl a2 rows c2), (19, I (lN rows)), (20, I y202)] fun a hS => ?_
    refine aO ?_
    obtain ⟨I4, μ4, hm0, hm⟩ := hm
    refine b8 (σ := (List (Int × Int)) × Int) (fun s a w => ∃ Z X a220 c221, I4 s.1 s.2 /\ St Try.f40.ntmps ⟨[(0, Sl a1 l_ c1), (6, Sl a105 r104 c106), (7, Sl a220 s.1 c221), (8, I y200), (10, Sl a206 (gi rows y202) c207), (11, I s.2), (18, Sl a2 rows c2), (19, I (lN rows)), (20, I y202)], []⟩ Z a w X /\ Old w0 X0 w X /\ RS aq w X a1 l_ c1 /\ RS au w X a105 r104 c106 /\ OS tP2 116 w X 1006 a220 s.1 c221 /\ RS au w X a206 (gi rows y202) c207 /\ RS (dn au) w X a2 rows c2) (fun s => μ4 s.1 s.2) (⟨y196, 1⟩) ?_ ?_
    ·exact ⟨Z, _, a197, c198, hm0, hS.sl _, hO, h194, h195, h199, h208, h201⟩
    rintro ⟨y219, y224⟩ a w236 ⟨Z, X235, a220, c221, hI, hS, hO, h217, h218, h222, h223, h225⟩
    replace hm := hm y219 y224 hI
    clear hI hm0
    refine ba ?_
    refine rPb T hS [(0, Sl a1 l_ c1), (6, Sl a105 r104 c106), (7, Sl a220 y219 c221), (8, I y200), (10, Sl a206 (gi rows y202) c207), (11, I y224), (18, Sl a2 rows c2), (19, I (lN rows)), (20, I y202), (27, B (decide (y224 < (lN (gi rows y202)))))] fun a hS => ?_
    refine aG hS (b := decide (y224 < (lN (gi rows y202)))) kr (fun hb => ?_) fun hb => ?_
    ·replace hm := hm.1 hb
     refine aJ (ba ?_)
     refine aO ?_
     refine region ?_
     refine oPb T hS 9 [(0, Sl a1 l_ c1), (6, Sl a105 r104 c106), (7, Sl a220 y219 c221), (8, I y200), (10, Sl a206 (gi rows y202) c207), (11, I y224), (18, Sl a2 rows c2), (19, I (lN rows)), (20, I y202), (30, Sl a220 y219 c221), (38, V (.agg #[.int .i64 (wR ((wR (y200 + y224)) - 1)), .int .i64 (wR (y200 + y224))]))] fun a hS => ?_
     refine op1 (lit (E := 116) (col := 0) (T := tP2) (vals := [.agg #[.int .i64 (wR ((wR (y200 + y224)) - 1)), .int .i64 (wR (y200 + y224))]]) (ys := [(wR ((wR (y200 + y224)) - 1), wR (y200 + y224))]) T hS kr kr kr kr (by exact ⟨rfl, trivial⟩) rfl kr kr kr kr ?_)
     intro b226 a w227 X228 hE h229 hN hS
     clear hN
     replace hO := hO.m2 hE
     replace h217 := h217.m1 hE
     replace h218 := h218.m1 hE
     replace h222 := h222.m2 hE
     replace h223 := h223.m1 hE
     replace h225 := h225.m1 hE
     replace h229 := h229.rs0
     obtain ⟨hq, hm⟩ := hm
     obtain ⟨news, hN⟩ := h229.src
     refine op1 (append (E := 116) (T := tP2) (col := 1006) (xs := y219) T hS kr kr kr kr h222 hN kr kr kr kr hq ?_)
     intro a233 c234 a w230 X231 hE h232 hS
     clear hq hN
     clear h222
     replace hO := hO.m2 hE
     replace h217 := h217.m1 hE
     replace h218 := h218.m1 hE
     replace h223 := h223.m1 hE
     replace h225 := h225.m1 hE
     replace h229 := h229.m1 hE
     refine ePb T hS [(0, Sl a1 l_ c1), (6, Sl a105 r104 c106), (7, Sl a233 (y219 ++ [(wR ((wR (y200 + y224)) - 1), wR (y200 + y224))]) c234), (8, I y200), (10, Sl a206 (gi rows y202) c207), (11, I y224), (18, Sl a2 rows c2), (19, I (lN rows)), (20, I y202)] fun a hS => ?_
     refine region (ePb T hS [(0, Sl a1 l_ c1), (6, Sl a105 r104 c106), (7, Sl a233 (y219 ++ [(wR ((wR (y200 + y224)) - 1), wR (y200 + y224))]) c234), (8, I y200), (10, Sl a206 (gi rows y202) c207), (11, I (wR (y224 + 1))), (18, Sl a2 rows c2), (19, I (lN rows)), (20, I y202)] fun a hS => ?_)
     exact ⟨⟨y219 ++ [(wR ((wR (y200 + y224)) - 1), wR (y200 + y224))], wR (y224 + 1)⟩, ⟨Z, _, a233, c234, hm.1, hS.sl _, hO, h217, h218, h232, h223, h225⟩, hm.2⟩
    replace hm := hm.2 hb
    refine b0 (by rfl) ?_
    exact ⟨Z, _, y219, a220, c221, hm, hS.sl _, hO, h217, h218, h222, h223, h225⟩
   rintro a w238 ⟨Z, X237, y211, a212, c213, hm, hS, hO, h209, h210, h214, h215, h216⟩
   unfold VC40_J5 at hm
   refine region (ePb T hS [(0, Sl a1 l_ c1), (6, Sl a105 r104 c106), (7, Sl a212 y211 c213), (8, I (wR (y200 + (lN (gi rows y202))))), (18, Sl a2 rows c2), (19, I (lN rows)), (20, I y202)] fun a hS => ?_)
   refine region (ePb T hS [(0, Sl a1 l_ c1), (6, Sl a105 r104 c106), (7, Sl a212 y211 c213), (8, I (wR (y200 + (lN (gi rows y202))))), (18, Sl a2 rows c2), (19, I (lN rows)), (20, I (wR (y202 + 1)))] fun a hS => ?_)
   exact ⟨⟨y211, wR (y200 + (lN (gi rows y202))), wR (y202 + 1)⟩, ⟨Z, _, a212, c213, hm.1, hS.sl _, hO, h209, h210, h214, h216⟩, hm.2⟩
  replace hm := hm.2 hb
  refine b0 (by rfl) ?_
  exact ⟨Z, _, y196, a197, c198, hm, hS.sl _, hO, h194, h195, h199⟩
 rintro a w242 ⟨Z, X241, y110, a111, c112, hm, hS, hO, h108, h109, h113⟩
 unfold VC40_J1 at hm
 refine bU (fun a w => ∃ (Z : Nat -> Nat) (X : Nat -> Nat) (y115 : List (Int × Int)) (a116 : Option Addr) (c117 : Nat), VC40_J2 Q r104 y115 /\ St Try.f40.ntmps ⟨[(6, Sl a105 r104 c106), (7, Sl a116 y115 c117)], []⟩ Z a w X /\ Old w0 X0 w X /\ RS au w X a105 r104 c106 /\ OS tP2 116 w X 1006 a116 y115 c117) ?_ ?_
 ·refine rPb T hS [(0, Sl a1 l_ c1), (6, Sl a105 r104 c106), (7, Sl a111 y110 c112), (46, Sl a105 r104 c106), (47, I (lN r104)), (48, I 0)] fun a hS => ?_
  refine aO ?_
  obtain ⟨I1, μ1, hm0, hm⟩ := hm
  refine b8 (σ := (List (Int × Int)) × Int) (fun s a w => ∃ Z X a124 c125, I1 s.1 s.2 /\ St Try.f40.ntmps ⟨[(0, Sl a1 l_ c1), (6, Sl a105 r104 c106), (7, Sl a124 s.1 c125), (46, Sl a105 r104 c106), (47, I (lN r104)), (48, I s.2)], []⟩ Z a w X /\ Old w0 X0 w X /\ RS aq w X a1 l_ c1 /\ RS au w X a105 r104 c106 /\ OS tP2 116 w X 1006 a124 s.1 c125 /\ RS au w X a105 r104 c106) (fun s => μ1 s.1 s.2) (⟨y110, 0⟩) ?_ ?_
  ·exact ⟨Z, _, a111, c112, hm0, hS.sl _, hO, h108, h109, h113, h109⟩
  rintro ⟨y123, y128⟩ a w191 ⟨Z, X190, a124, c125, hI, hS, hO, h121, h122, h126, h127⟩
  replace hm := hm y123 y128 hI
  clear hI hm0
  refine rPb T hS [(0, Sl a1 l_ c1), (6, Sl a105 r104 c106), (7, Sl a124 y123 c125), (46, Sl a105 r104 c106), (47, I (lN r104)), (48, I y128), (49, B (decide (y128 < (lN r104))))] fun a hS => ?_
  refine ba ?_
  refine aG hS (b := decide (y128 < (lN r104))) kr (fun hb => ?_) fun hb => ?_
  ·replace hm := hm.1 hb
   refine aJ ?_
   refine bU (fun a w => ∃ (Z : Nat -> Nat) (X : Nat -> Nat) (y131 : List (Int × Int)) (a132 : Option Addr) (c133 : Nat), VC40_J3 I1 μ1 y123 y128 y131 /\ St Try.f40.ntmps ⟨[(0, Sl a1 l_ c1), (6, Sl a105 r104 c106), (7, Sl a132 y131 c133), (46, Sl a105 r104 c106), (47, I (lN r104)), (48, I y128)], []⟩ Z a w X /\ Old w0 X0 w X /\ RS aq w X a1 l_ c1 /\ RS au w X a105 r104 c106 /\ OS tP2 116 w X 1006 a132 y131 c133 /\ RS au w X a105 r104 c106) ?_ ?_
   ·refine aO ?_
    refine bb ?_
    refine oPb T hS 1 [(0, Sl a1 l_ c1), (6, Sl a105 r104 c106), (7, Sl a124 y123 c125), (46, Sl a105 r104 c106), (47, I (lN r104)), (48, I y128), (50, I y128)] fun a hS => ?_
    obtain ⟨hq, hm⟩ := hm
    refine op1 (index (e := 100) (k := .i64) T hS kr kr kr kr h127 kr kr hq.1 hq.2 ?_)
    intro A136 a h137 hS
    refine op1 (di T hS kr kr kr h137 kr kr ?_)
    intro v138 a hv hS
    subst hv
    refine eM T hS ⟨[(0, Sl a1 l_ c1), (6, Sl a105 r104 c106), (7, Sl a124 y123 c125), (12, I y128), (13, Pt 14 0), (46, Sl a105 r104 c106), (47, I (lN r104)), (48, I y128)], [(14, (100, (cK (gi r104 y128))))]⟩ fun Z a w186 X187 hS hE hr => ?_
    replace hO := hO.m2 hE
    replace h121 := h121.m1 hE
    replace h122 := h122.m1 hE
    replace h126 := h126.m2 hE
    replace h127 := h127.m1 hE
    clear hE hr
    refine rPb T hS [(0, Sl a1 l_ c1), (6, Sl a105 r104 c106), (7, Sl a124 y123 c125), (12, I y128), (13, Pt 14 0), (46, Sl a105 r104 c106), (47, I (lN r104)), (48, I y128), (53, Sl a105 r104 c106), (54, I (lN r104)), (55, I 0)] fun a hS => ?_
    refine aO ?_
    obtain ⟨I2, μ2, hm0, hm⟩ := hm
    refine b8 (σ := (List (Int × Int)) × Int) (fun s a w => ∃ Z X a142 c143, I2 s.1 s.2 /\ St Try.f40.ntmps ⟨[(0, Sl a1 l_ c1), (6, Sl a105 r104 c106), (7, Sl a142 s.1 c143), (12, I y128), (13, Pt 14 0), (46, Sl a105 r104 c106), (47, I (lN r104)), (48, I y128), (53, Sl a105 r104 c106), (54, I (lN r104)), (55, I s.2)], [(14, (100, (cK (gi r104 y128))))]⟩ Z a w X /\ Old w0 X0 w X /\ RS aq w X a1 l_ c1 /\ RS au w X a105 r104 c106 /\ OS tP2 116 w X 1006 a142 s.1 c143 /\ RS au w X a105 r104 c106 /\ RS au w X a105 r104 c106) (fun s => μ2 s.1 s.2) (⟨y123, 0⟩) ?_ ?_
    ·exact ⟨Z, _, a124, c125, hm0, hS.sl _, hO, h121, h122, h126, h127, h122⟩
    rintro ⟨y141, y147⟩ a w185 ⟨Z, X184, a142, c143, hI, hS, hO, h139, h140, h144, h145, h146⟩
    replace hm := hm y141 y147 hI
    clear hI hm0
    refine rPb T hS [(0, Sl a1 l_ c1), (6, Sl a105 r104 c106), (7, Sl a142 y141 c143), (12, I y128), (13, Pt 14 0), (46, Sl a105 r104 c106), (47, I (lN r104)), (48, I y128), (53, Sl a105 r104 c106), (54, I (lN r104)), (55, I y147), (56, B (decide (y147 < (lN r104))))] fun a hS => ?_
    refine ba ?_
    refine aG hS (b := decide (y147 < (lN r104))) kr (fun hb => ?_) fun hb => ?_
    ·replace hm := hm.1 hb
     refine aJ ?_
     refine bU (fun a w => ∃ (Z : Nat -> Nat) (X : Nat -> Nat) (y150 : List (Int × Int)) (a151 : Option Addr) (c152 : Nat), VC40_J4 I2 μ2 y141 y147 y150 /\ St Try.f40.ntmps ⟨[(0, Sl a1 l_ c1), (6, Sl a105 r104 c106), (7, Sl a151 y150 c152), (12, I y128), (13, Pt 14 0), (46, Sl a105 r104 c106), (47, I (lN r104)), (48, I y128), (53, Sl a105 r104 c106), (54, I (lN r104)), (55, I y147)], [(14, (100, (cK (gi r104 y128))))]⟩ Z a w X /\ Old w0 X0 w X /\ RS aq w X a1 l_ c1 /\ RS au w X a105 r104 c106 /\ OS tP2 116 w X 1006 a151 y150 c152 /\ RS au w X a105 r104 c106 /\ RS au w X a105 r104 c106) ?_ ?_
     ·refine aO ?_
      refine bb ?_
      refine oPb T hS 1 [(0, Sl a1 l_ c1), (6, Sl a105 r104 c106), (7, Sl a142 y141 c143), (12, I y128), (13, Pt 14 0), (46, Sl a105 r104 c106), (47, I (lN r104)), (48, I y128), (53, Sl a105 r104 c106), (54, I (lN r104)), (55, I y147), (57, I y147)] fun a hS => ?_
      obtain ⟨hq, hm⟩ := hm
      refine op1 (index (e := 100) (k := .i64) T hS kr kr kr kr h146 kr kr hq.1 hq.2 ?_)
      intro A156 a h157 hS
      refine op1 (di T hS kr kr kr h157 kr kr ?_)
      intro v158 a hv hS
      subst hv
      refine eM T hS ⟨[(0, Sl a1 l_ c1), (6, Sl a105 r104 c106), (7, Sl a142 y141 c143), (12, I y128), (13, Pt 14 0), (14, I y147), (15, Pt 16 0), (46, Sl a105 r104 c106), (47, I (lN r104)), (48, I y128), (53, Sl a105 r104 c106), (54, I (lN r104)), (55, I y147)], [(14, (100, (cK (gi r104 y128)))), (16, (100, (cK (gi r104 y147))))]⟩ fun Z a w180 X181 hS hE hr => ?_
      replace hO := hO.m2 hE
      replace h139 := h139.m1 hE
      replace h140 := h140.m1 hE
      replace h144 := h144.m2 hE
      replace h145 := h145.m1 hE
      replace h146 := h146.m1 hE
      clear hE hr
      refine ct [14, 16] mixed hS ?_
      intro w159 X160 hS hE hD hH
      replace hO := hO.m2 hE
      replace h139 := h139.m1 hE
      replace h140 := h140.m1 hE
      replace h144 := h144.m2 hE
      replace h145 := h145.m1 hE
      replace h146 := h146.m1 hE
      refine tkb T [0, 1, 5, 6, 2, 7] [14, 16] hS hH #[true, true, true, false, false, true, true, true, false, false, false] 5 [(0, Sl a1 l_ c1), (6, Sl a105 r104 c106), (7, Sl a142 y141 c143), (12, I y128), (13, Pt 14 0), (14, I y147), (46, Sl a105 r104 c106), (47, I (lN r104)), (48, I y128), (53, Sl a105 r104 c106), (54, I (lN r104)), (55, I y147), (60, Sl a1 l_ c1), (62, I ((gi r104 y128).Oper)), (65, Sl a1 l_ c1), (67, I ((gi r104 y147).Oper))] fun a hS => ?_
      obtain ⟨hq, hm⟩ := hm
      refine cD (e := 80) (k := .i64) T 3 hS kr kr kr (by rfl) kr hH kr kr h139 kr kr hq.1 hq.2 ?_
      intro A161 a h162 hS
      have h162b := h162.here
      refine fB T 4 hS kr kr kr (by rfl) kr hH kr h162 h162b kr kr ?_
      intro v163 a hv hS
      subst hv
      obtain ⟨hq, hm⟩ := hm
      refine cD (e := 80) (k := .i64) T 8 hS kr kr kr (by rfl) kr hH kr kr h139 kr kr hq.1 hq.2 ?_
      intro A164 a h165 hS
      have h165b := h165.here
      refine fB T 9 hS kr kr kr (by rfl) kr hH kr h165 h165b kr kr ?_
      intro v166 a hv hS
      subst hv
      refine only 10 kr (by rfl) (call hS kr kr hb57 kr (fun _ _ => rfl) (k57 _ _ (gi l_ ((gi r104 y128).Oper)) (gi l_ ((gi r104 y147).Oper))) ?_)
      intro v167 a w168 X169 hE hp hS
      replace hO := hO.m2 hE
      replace hD := hD.ev hE rfl
      replace h139 := h139.m1 hE
      replace h140 := h140.m1 hE
      replace h144 := h144.m2 hE
      replace h145 := h145.m1 hE
      replace h146 := h146.m1 hE
      replace h162 := h162.m1 hE
      replace h165 := h165.m1 hE
      obtain ⟨r170, hr⟩ : ∃ r, bF (gi l_ ((gi r104 y128).Oper)) (gi l_ ((gi r104 y147).Oper)) = r := ⟨_, rfl⟩
      replace hm := hm r170 hr
      rw [hr] at hp
      clear hr
      subst hp
      replace hS := hS.slb [(0, Sl a1 l_ c1), (6, Sl a105 r104 c106), (7, Sl a142 y141 c143), (12, I y128), (13, Pt 14 0), (14, I y147), (46, Sl a105 r104 c106), (47, I (lN r104)), (48, I y128), (53, Sl a105 r104 c106), (54, I (lN r104)), (55, I y147), (60, Sl a1 l_ c1), (62, I ((gi r104 y128).Oper)), (65, Sl a1 l_ c1), (67, I ((gi r104 y147).Oper)), (63, V (.pointer (some A161))), (64, V (.agg #[.int .i64 ((gi l_ ((gi r104 y128).Oper)).ab), .int .i64 ((gi l_ ((gi r104 y128).Oper)).Kind), .int .i64 ((gi l_ ((gi r104 y128).Oper)).aA), .int .i64 ((gi l_ ((gi r104 y128).Oper)).End), .int .i64 ((gi l_ ((gi r104 y128).Oper)).Result)])), (68, V (.pointer (some A164))), (69, V (.agg #[.int .i64 ((gi l_ ((gi r104 y147).Oper)).ab), .int .i64 ((gi l_ ((gi r104 y147).Oper)).Kind), .int .i64 ((gi l_ ((gi r104 y147).Oper)).aA), .int .i64 ((gi l_ ((gi r104 y147).Oper)).End), .int .i64 ((gi l_ ((gi r104 y147).Oper)).Result)])), (70, B r170)]
      refine bX (bl.of hS (bks := [14, 16]) kr hD) ?_
      intro hH
      refine aM kr ?_
      replace hS := hS.sl ⟨[(0, Sl a1 l_ c1), (6, Sl a105 r104 c106), (7, Sl a142 y141 c143), (12, I y128), (13, Pt 14 0), (14, I y147), (46, Sl a105 r104 c106), (47, I (lN r104)), (48, I y128), (53, Sl a105 r104 c106), (54, I (lN r104)), (55, I y147), (70, B r170)], [(14, (100, (cK (gi r104 y128))))]⟩
      refine aG hS (b := r170) kr (fun hb => ?_) fun hb => ?_
      ·replace hm := hm.1 hb
       refine region ?_
       refine oPb T hS 4 [(0, Sl a1 l_ c1), (6, Sl a105 r104 c106), (7, Sl a142 y141 c143), (12, I y128), (13, Pt 14 0), (46, Sl a105 r104 c106), (47, I (lN r104)), (48, I y128), (53, Sl a105 r104 c106), (54, I (lN r104)), (55, I y147), (71, Sl a142 y141 c143), (74, V (.agg #[.int .i64 y128, .int .i64 y147]))] fun a hS => ?_
       refine op1 (lit (E := 116) (col := 0) (T := tP2) (vals := [.agg #[.int .i64 y128, .int .i64 y147]]) (ys := [(y128, y147)]) T hS kr kr kr kr (by exact ⟨rfl, trivial⟩) rfl kr kr kr kr ?_)
       intro b171 a w172 X173 hE h174 hN hS
       clear hN
       replace hO := hO.m2 hE
       replace h139 := h139.m1 hE
       replace h140 := h140.m1 hE
       replace h144 := h144.m2 hE
       replace h145 := h145.m1 hE
       replace h146 := h146.m1 hE
       replace h174 := h174.rs0
       obtain ⟨hq, hm⟩ := hm
       obtain ⟨news, hN⟩ := h174.src
       refine op1 (append (E := 116) (T := tP2) (col := 1006) (xs := y141) T hS kr kr kr kr h144 hN kr kr kr kr hq ?_)
       intro a178 c179 a w175 X176 hE h177 hS
       clear hq hN
       clear h144
       replace hO := hO.m2 hE
       replace h139 := h139.m1 hE
       replace h140 := h140.m1 hE
       replace h145 := h145.m1 hE
       replace h146 := h146.m1 hE
       replace h174 := h174.m1 hE
       refine ePb T hS [(0, Sl a1 l_ c1), (6, Sl a105 r104 c106), (7, Sl a178 (y141 ++ [(y128, y147)]) c179), (12, I y128), (13, Pt 14 0), (46, Sl a105 r104 c106), (47, I (lN r104)), (48, I y128), (53, Sl a105 r104 c106), (54, I (lN r104)), (55, I y147)] fun a hS => ?_
       exact ⟨Z, _, y141 ++ [(y128, y147)], a178, c179, hm, hS.sl _, hO, h139, h140, h177, h145, h146⟩
      replace hm := hm.2 hb
      refine aJ ?_
      exact ⟨Z, _, y141, a142, c143, hm, hS.sl _, hO, h139, h140, h144, h145, h146⟩
     rintro a w183 ⟨Z, X182, y150, a151, c152, hm, hS, hO, h148, h149, h153, h154, h155⟩
     unfold VC40_J4 at hm
     refine region (ePb T hS [(0, Sl a1 l_ c1), (6, Sl a105 r104 c106), (7, Sl a151 y150 c152), (12, I y128), (13, Pt 14 0), (46, Sl a105 r104 c106), (47, I (lN r104)), (48, I y128), (53, Sl a105 r104 c106), (54, I (lN r104)), (55, I (wR (y147 + 1)))] fun a hS => ?_)
     exact ⟨⟨y150, wR (y147 + 1)⟩, ⟨Z, _, a151, c152, hm.1, hS.sl _, hO, h148, h149, h153, h154, h155⟩, hm.2⟩
    replace hm := hm.2 hb
    refine b0 (by rfl) ?_
    exact ⟨Z, _, y141, a142, c143, hm, hS.sl _, hO, h139, h140, h144, h145⟩
   rintro a w189 ⟨Z, X188, y131, a132, c133, hm, hS, hO, h129, h130, h134, h135⟩
   unfold VC40_J3 at hm
   refine region (ePb T hS [(0, Sl a1 l_ c1), (6, Sl a105 r104 c106), (7, Sl a132 y131 c133), (46, Sl a105 r104 c106), (47, I (lN r104)), (48, I (wR (y128 + 1)))] fun a hS => ?_)
   exact ⟨⟨y131, wR (y128 + 1)⟩, ⟨Z, _, a132, c133, hm.1, hS.sl _, hO, h129, h130, h134, h135⟩, hm.2⟩
  replace hm := hm.2 hb
  refine b0 (by rfl) ?_
  exact ⟨Z, _, y123, a124, c125, hm, hS.sl _, hO, h122, h126⟩
 rintro a w193 ⟨Z, X192, y115, a116, c117, hm, hS, hO, h114, h118⟩
 unfold VC40_J2 at hm
 refine rPb T hS [(4, Sl a105 r104 c106), (5, Sl a116 y115 c117)] fun a hS => ?_
 refine aU ?_
 obtain ⟨X119, hE, hF⟩ := h118.freeze (by decide)
 replace hS := hS.ev hE (bW kr)
 replace hO := hO.m2 hE
 replace h114 := h114.m1 hE
 have h120 := hF; clear hE hF
 exact fin T hS hO (fun c => c) rfl (r := [.slice a105 r104.length c106, .slice a116 y115.length c117]) kr (fun X' hM hC => ⟨(r104, y115), hm, a105, c106, a116, c117, rfl, h114.m0 hM, h120.m0 hM⟩)
theorem C40 (k56 : S56) (k57 : S57) (v : ∀ (l_ : List aa) (rows : List (List ah)), lZ l_ rows -> VC40 l_ rows (fun r => r = cq l_ rows)) : S40 := by
 intro w X l_ rows a1 c1 a2 c2   hp h1 h2
 refine (W40 k56 k57 w X l_ rows a1 c1 a2 c2   _ (v l_ rows hp) h1 h2).mono ?_
 rintro _ _ _ _ ⟨r, rfl, h⟩
 exact h
theorem W20 (k38 : S38) (k39 : S39) (k40 : S40) (k41 : S41) (w0) (X0) (h_ : ak) (a1) (c1) (a2) (c2) (Q : (List ah) × Int -> Prop) (hm : VC20 h_ Q) (h1 : RS aE w0 X0 a1 h_.ae c1) (h2 : RS aK w0 X0 a2 h_.aj c2) :
  Ret Try.prog 20 #[.agg #[.slice a1 h_.ae.length c1, .slice a2 h_.aj.length c2]] aF w0 X0 (fun w X' v => ∃ r, Q r /\ ∃ ra1 rc1, v = .tuple #[.slice ra1 r.1.length rc1, .int .i64 r.2] /\ RS au w X' ra1 r.1 rc1) := by
 unfold VC20 at hm
 replace hm := hm (h1.sm kr)
 replace hm := hm (h2.sm kr)
 refine enter Try.func20 rfl (vals := [.agg #[.slice a1 h_.ae.length c1, .slice a2 h_.aj.length c2]]) kr ?_
 intro Z a hS hO hM
 replace h1 := h1.m0 hM
 replace h2 := h2.m0 hM
 refine rM T hS ⟨[(1, Pt 2 0)], [(2, (25, [Sl a1 h_.ae c1, Sl a2 h_.aj c2]))]⟩ fun Z a w171 X172 hS hE hr => ?_
 replace hO := hO.m2 hE
 replace h1 := h1.m1 hE
 replace h2 := h2.m1 hE
 clear hE hr
 refine bb ?_
 refine oPb T hS 1 [(1, Pt 2 0), (16, V (.agg #[.slice a1 h_.ae.length c1, .slice a2 h_.aj.length c2]))] fun a hS => ?_
 obtain ⟨hq, hm⟩ := hm
 refine op1 (call hS kr kr hb38 kr (fun _ _ => rfl) (k38 _ _ h_ a1 c1 a2 c2 hq h1 h2) ?_)
 intro v101 a w102 X103 hE hp hS
 replace hO := hO.m2 hE
 replace h1 := h1.m1 hE
 replace h2 := h2.m1 hE
 obtain ⟨a105, c106, a108, c109, hp, h107, h110⟩ := hp
 obtain ⟨r104, hr⟩ : ∃ r, cm h_ = r := ⟨_, rfl⟩
 replace hm := hm r104 hr
 rw [hr] at hp h107 h110
 clear hr
 subst hp
 replace hm := hm (h107.sm kr)
 replace hm := hm (h110.sm kr)
 refine ePb T hS [(1, Pt 2 0), (4, Sl a105 r104.1 c106), (5, Sl a108 r104.2.1 c109), (6, I r104.2.2)] fun a hS => ?_
 refine ba ?_
 refine rPb T hS [(1, Pt 2 0), (4, Sl a105 r104.1 c106), (5, Sl a108 r104.2.1 c109), (6, I r104.2.2), (22, B (r104.2.2 != 0))] fun a hS => ?_
 refine aG hS (b := (r104.2.2 != 0)) kr (fun hb => ?_) fun hb => ?_
 ·replace hm := hm.1 hb
  refine rP T hS ⟨[(2, V (.slice none 0 0)), (3, I r104.2.2)], []⟩ fun a hS => ?_
  refine aU ?_
  exact fin T hS hO (fun c => c) rfl (r := [.slice none 0 0, .int .i64 r104.2.2]) kr (fun X' hM hC => ⟨([], r104.2.2), hm, none, 0, rfl, RS.empty _ _ _⟩)
 replace hm := hm.2 hb
 refine aJ ?_
 refine bb ?_
 refine oP T hS 3 ⟨[(4, Sl a105 r104.1 c106), (6, I r104.2.2), (25, V (.agg #[.slice a1 h_.ae.length c1, .slice a2 h_.aj.length c2])), (26, Sl a105 r104.1 c106), (27, Sl a108 r104.2.1 c109)], []⟩ fun a hS => ?_
 obtain ⟨hq, hm⟩ := hm
 refine op1 (call hS kr kr hb39 kr (fun _ _ => rfl) (k39 _ _ h_ r104.1 r104.2.1 a1 c1 a2 c2 a105 c106 a108 c109 hq h1 h2 h107 h110) ?_)
 intro v111 a w112 X113 hE hp hS
 replace hO := hO.m2 hE
 replace h1 := h1.m1 hE
 replace h2 := h2.m1 hE
 replace h107 := h107.m1 hE
 replace h110 := h110.m1 hE
 obtain ⟨a115, c116, hp, h117⟩ := hp
 obtain ⟨r114, hr⟩ : ∃ r, bT h_ r104.1 r104.2.1 = r := ⟨_, rfl⟩
 replace hm := hm r114 hr
 rw [hr] at hp h117
 clear hr
 subst hp
 replace hm := hm (h117.sm kr)
 refine ePb T hS [(4, Sl a105 r104.1 c106), (6, I r114.2), (7, Sl a115 r114.1 c116)] fun a hS => ?_
 refine ba ?_
 refine rPb T hS [(4, Sl a105 r104.1 c106), (6, I r114.2), (7, Sl a115 r114.1 c116), (32, B (r114.2 != 0))] fun a hS => ?_
 refine aG hS (b := (r114.2 != 0)) kr (fun hb => ?_) fun hb => ?_
 ·replace hm := hm.1 hb
  refine rPb T hS [(2, V (.slice none 0 0)), (3, I r114.2)] fun a hS => ?_
  refine aU ?_
  exact fin T hS hO (fun c => c) rfl (r := [.slice none 0 0, .int .i64 r114.2]) kr (fun X' hM hC => ⟨([], r114.2), hm, none, 0, rfl, RS.empty _ _ _⟩)
 replace hm := hm.2 hb
 refine aJ ?_
 refine bb ?_
 refine oPb T hS 2 [(35, Sl a105 r104.1 c106), (36, Sl a115 r114.1 c116)] fun a hS => ?_
 obtain ⟨hq, hm⟩ := hm
 refine op1 (call hS kr kr hb40 kr (fun _ _ => rfl) (k40 _ _ r104.1 r114.1 a105 c106 a115 c116 hq h107 h117) ?_)
 intro v118 a w119 X120 hE hp hS
 replace hO := hO.m2 hE
 replace h107 := h107.m1 hE
 replace h117 := h117.m1 hE
 obtain ⟨a122, c123, a125, c126, hp, h124, h127⟩ := hp
 obtain ⟨r121, hr⟩ : ∃ r, cq r104.1 r114.1 = r := ⟨_, rfl⟩
 replace hm := hm r121 hr
 rw [hr] at hp h124 h127
 clear hr
 subst hp
 replace hm := hm (h124.sm kr)
 replace hm := hm (h127.sm kr)
 refine ePb T hS [(8, Sl a122 r121.1 c123), (9, Sl a125 r121.2 c126)] fun a hS => ?_
 refine bb ?_
 refine oPb T hS 3 [(8, Sl a122 r121.1 c123), (42, I (lN r121.1)), (43, Sl a125 r121.2 c126)] fun a hS => ?_
 refine op1 (call hS kr kr hb41 kr (fun _ _ => rfl) (k41 _ _ (lN r121.1) r121.2 a125 c126 h127) ?_)
 intro v128 a w129 X130 hE hp hS
 replace hO := hO.m2 hE
 replace h124 := h124.m1 hE
 replace h127 := h127.m1 hE
 obtain ⟨a132, c133, hp, h134⟩ := hp
 obtain ⟨r131, hr⟩ : ∃ r, cc (lN r121.1) r121.2 = r := ⟨_, rfl⟩
 replace hm := hm r131 hr
 rw [hr] at hp h134
 clear hr
 subst hp
 replace hm := hm (h134.sm kr)
 refine ePb T hS [(8, Sl a122 r121.1 c123), (10, Sl a132 r131.1 c133), (11, B r131.2)] fun a hS => ?_
 refine ba ?_
 refine rPb T hS [(8, Sl a122 r121.1 c123), (10, Sl a132 r131.1 c133), (48, B (!r131.2))] fun a hS => ?_
 refine aG hS (b := (!r131.2)) kr (fun hb => ?_) fun hb => ?_
 ·replace hm := hm.1 hb
  refine rPb T hS [(2, V (.slice none 0 0)), (3, I 41)] fun a hS => ?_
  refine aU ?_
  exact fin T hS hO (fun c => c) rfl (r := [.slice none 0 0, .int .i64 41]) kr (fun X' hM hC => ⟨([], 41), hm, none, 0, rfl, RS.empty _ _ _⟩)
 replace hm := hm.2 hb
 refine aJ ?_
 refine bb ?_
 refine op1 (lit (E := 100) (col := 1003) (T := au) (vals := []) (ys := ([] : List ah)) T hS kr kr kr kr trivial rfl kr kr kr kr ?_)
 intro b135 a w136 X137 hE h138 hN hS
 clear hN
 replace hO := hO.m2 hE
 replace h124 := h124.m1 hE
 replace h134 := h134.m1 hE
 refine ePb T hS [(8, Sl a122 r121.1 c123), (10, Sl a132 r131.1 c133), (12, Sl (some ⟨b135, 0, none⟩) ([] : List ah) 0)] fun a hS => ?_
 refine bU (fun a w => ∃ (Z : Nat -> Nat) (X : Nat -> Nat) (y139 : List ah) (a140 : Option Addr) (c141 : Nat), VC20_J1 Q y139 /\ St Try.f20.ntmps ⟨[(12, Sl a140 y139 c141)], []⟩ Z a w X /\ Old w0 X0 w X /\ OS au 100 w X 1003 a140 y139 c141) ?_ ?_
 ·refine rPb T hS [(8, Sl a122 r121.1 c123), (12, Sl (some ⟨b135, 0, none⟩) ([] : List ah) 0), (50, Sl a132 r131.1 c133), (51, I (lN r131.1)), (52, I 0)] fun a hS => ?_
  refine aO ?_
  obtain ⟨I1, μ1, hm0, hm⟩ := hm
  refine b8 (σ := (List ah) × Int) (fun s a w => ∃ Z X a147 c148, I1 s.1 s.2 /\ St Try.f20.ntmps ⟨[(8, Sl a122 r121.1 c123), (12, Sl a147 s.1 c148), (50, Sl a132 r131.1 c133), (51, I (lN r131.1)), (52, I s.2)], []⟩ Z a w X /\ Old w0 X0 w X /\ RS au w X a122 r121.1 c123 /\ OS au 100 w X 1003 a147 s.1 c148 /\ RS tI w X a132 r131.1 c133) (fun s => μ1 s.1 s.2) (⟨([] : List ah), 0⟩) ?_ ?_
  ·exact ⟨Z, _, (some ⟨b135, 0, none⟩), 0, hm0, hS.sl _, hO, h124, h138, h134⟩
  rintro ⟨y146, y151⟩ a w168 ⟨Z, X167, a147, c148, hI, hS, hO, h145, h149, h150⟩
  replace hm := hm y146 y151 hI
  clear hI hm0
  refine rPb T hS [(8, Sl a122 r121.1 c123), (12, Sl a147 y146 c148), (50, Sl a132 r131.1 c133), (51, I (lN r131.1)), (52, I y151), (53, B (decide (y151 < (lN r131.1))))] fun a hS => ?_
  refine ba ?_
  refine aG hS (b := decide (y151 < (lN r131.1))) kr (fun hb => ?_) fun hb => ?_
  ·replace hm := hm.1 hb
   refine aJ (ba ?_)
   refine aO ?_
   refine bb ?_
   obtain ⟨hq, hm⟩ := hm
   refine op1 (index (e := 3) (k := .i64) T hS kr kr kr kr h150 kr kr hq.1 hq.2 ?_)
   intro A152 a h153 hS
   refine op1 (ec T hS kr kr kr h153 rfl kr ?_)
   intro v154 a hv hS
   cases hv
   refine ePb T hS [(8, Sl a122 r121.1 c123), (12, Sl a147 y146 c148), (14, I (gi r131.1 y151)), (50, Sl a132 r131.1 c133), (51, I (lN r131.1)), (52, I y151)] fun a hS => ?_
   refine region ?_
   refine oPb T hS 3 [(8, Sl a122 r121.1 c123), (12, Sl a147 y146 c148), (50, Sl a132 r131.1 c133), (51, I (lN r131.1)), (52, I y151), (56, Sl a147 y146 c148), (57, Sl a122 r121.1 c123), (58, I (gi r131.1 y151))] fun a hS => ?_
   obtain ⟨hq, hm⟩ := hm
   refine op1 (index (e := 100) (k := .i64) T hS kr kr kr kr h145 kr kr hq.1 hq.2 ?_)
   intro A155 a h156 hS
   refine op1 (di T hS kr kr kr h156 kr kr ?_)
   intro v157 a hv hS
   subst hv
   refine op1 (lit (E := 100) (col := 0) (T := au) (vals := [.agg #[.int .i64 ((gi r121.1 (gi r131.1 y151)).Oper), .int .i64 ((gi r121.1 (gi r131.1 y151)).Result)]]) (ys := [gi r121.1 (gi r131.1 y151)]) T hS kr kr kr kr (by exact ⟨rfl, trivial⟩) rfl kr kr kr kr ?_)
   intro b158 a w159 X160 hE h161 hN hS
   clear hN
   replace hO := hO.m2 hE
   replace h145 := h145.m1 hE
   replace h149 := h149.m2 hE
   replace h150 := h150.m1 hE
   replace h156 := h156.m1 hE
   replace h161 := h161.rs0
   obtain ⟨hq, hm⟩ := hm
   obtain ⟨news, hN⟩ := h161.src
   refine op1 (append (E := 100) (T := au) (col := 1003) (xs := y146) T hS kr kr kr kr h149 hN kr kr kr kr hq ?_)
   intro a165 c166 a w162 X163 hE h164 hS
   clear hq hN
   clear h149
   replace hO := hO.m2 hE
   replace h145 := h145.m1 hE
   replace h150 := h150.m1 hE
   replace h156 := h156.m1 hE
   replace h161 := h161.m1 hE
   refine ePb T hS [(8, Sl a122 r121.1 c123), (12, Sl a165 (y146 ++ [gi r121.1 (gi r131.1 y151)]) c166), (50, Sl a132 r131.1 c133), (51, I (lN r131.1)), (52, I y151)] fun a hS => ?_
   refine region (ePb T hS [(8, Sl a122 r121.1 c123), (12, Sl a165 (y146 ++ [gi r121.1 (gi r131.1 y151)]) c166), (50, Sl a132 r131.1 c133), (51, I (lN r131.1)), (52, I (wR (y151 + 1)))] fun a hS => ?_)
   exact ⟨⟨y146 ++ [gi r121.1 (gi r131.1 y151)], wR (y151 + 1)⟩, ⟨Z, _, a165, c166, hm.1, hS.sl _, hO, h145, h164, h150⟩, hm.2⟩
  replace hm := hm.2 hb
  refine b0 (by rfl) ?_
  exact ⟨Z, _, y146, a147, c148, hm, hS.sl _, hO, h149⟩
 rintro a w170 ⟨Z, X169, y139, a140, c141, hm, hS, hO, h142⟩
 unfold VC20_J1 at hm
 refine rPb T hS [(2, Sl a140 y139 c141), (3, I 0)] fun a hS => ?_
 refine aU ?_
 obtain ⟨X143, hE, hF⟩ := h142.freeze (by decide)
 replace hS := hS.ev hE (bW kr)
 replace hO := hO.m2 hE
 have h144 := hF; clear hE hF
 exact fin T hS hO (fun c => c) rfl (r := [.slice a140 y139.length c141, .int .i64 0]) kr (fun X' hM hC => ⟨(y139, 0), hm, a140, c141, rfl, h144.m0 hM⟩)
theorem C20 (k38 : S38) (k39 : S39) (k40 : S40) (k41 : S41) (v : ∀ (h_ : ak), dS h_ -> VC20 h_ (fun r => r = cJ h_)) : S20 := by
 intro w X h_ a1 c1 a2 c2   hp h1 h2
 refine (W20 k38 k39 k40 k41 w X h_ a1 c1 a2 c2   _ (v h_ hp) h1 h2).mono ?_
 rintro _ _ _ _ ⟨r, rfl, h⟩
 exact h
theorem W18 (k20 : S20) (w0) (X0) (h_ : ak) (a1) (c1) (a2) (c2) (Q : Bool × Int -> Prop) (hm : VC18 h_ Q) (h1 : RS aE w0 X0 a1 h_.ae c1) (h2 : RS aK w0 X0 a2 h_.aj c2) :
  Ret Try.prog 18 #[.agg #[.slice a1 h_.ae.length c1, .slice a2 h_.aj.length c2]] aF w0 X0 (fun w X' v => ∃ r, Q r /\ v = .tuple #[.bool r.1, .int .i64 r.2]) := by
 unfold VC18 at hm
 replace hm := hm (h1.sm kr)
 replace hm := hm (h2.sm kr)
 refine enter Try.func18 rfl (vals := [.agg #[.slice a1 h_.ae.length c1, .slice a2 h_.aj.length c2]]) kr ?_
 intro Z a hS hO hM
 replace h1 := h1.m0 hM
 replace h2 := h2.m0 hM
 refine rM T hS ⟨[(1, Pt 2 0)], [(2, (25, [Sl a1 h_.ae c1, Sl a2 h_.aj c2]))]⟩ fun Z a w108 X109 hS hE hr => ?_
 replace hO := hO.m2 hE
 replace h1 := h1.m1 hE
 replace h2 := h2.m1 hE
 clear hE hr
 refine bb ?_
 refine oP T hS 1 ⟨[(7, V (.agg #[.slice a1 h_.ae.length c1, .slice a2 h_.aj.length c2]))], []⟩ fun a hS => ?_
 obtain ⟨hq, hm⟩ := hm
 refine op1 (call hS kr kr hb20 kr (fun _ _ => rfl) (k20 _ _ h_ a1 c1 a2 c2 hq h1 h2) ?_)
 intro v101 a w102 X103 hE hp hS
 replace hO := hO.m2 hE
 replace h1 := h1.m1 hE
 replace h2 := h2.m1 hE
 obtain ⟨a105, c106, hp, h107⟩ := hp
 obtain ⟨r104, hr⟩ : ∃ r, cJ h_ = r := ⟨_, rfl⟩
 replace hm := hm r104 hr
 rw [hr] at hp h107
 clear hr
 subst hp
 replace hm := hm (h107.sm kr)
 refine ePb T hS [(5, I r104.2)] fun a hS => ?_
 refine ba ?_
 refine rPb T hS [(5, I r104.2), (12, B (r104.2 == 41))] fun a hS => ?_
 refine aG hS (b := (r104.2 == 41)) kr (fun hb => ?_) fun hb => ?_
 ·replace hm := hm.1 hb
  refine rPb T hS [(2, B false), (3, I 0)] fun a hS => ?_
  refine aU ?_
  exact fin T hS hO (fun c => c) rfl (r := [.bool false, .int .i64 0]) kr (fun X' hM hC => ⟨(false, 0), hm, rfl⟩)
 replace hm := hm.2 hb
 refine aJ ?_
 refine rPb T hS [(2, B (r104.2 == 0)), (3, I r104.2)] fun a hS => ?_
 refine aU ?_
 exact fin T hS hO (fun c => c) rfl (r := [.bool (r104.2 == 0), .int .i64 r104.2]) kr (fun X' hM hC => ⟨((r104.2 == 0), r104.2), hm, rfl⟩)
theorem C18 (k20 : S20) (v : ∀ (h_ : ak), dS h_ -> VC18 h_ (fun r => r = eE h_)) : S18 := by
 intro w X h_ a1 c1 a2 c2   hp h1 h2
 refine (W18 k20 w X h_ a1 c1 a2 c2   _ (v h_ hp) h1 h2).mono ?_
 rintro _ _ _ _ ⟨r, rfl, h⟩
 exact h
theorem W43 (w0) (X0) (i_ : Int) (cap1 : List ah) (cap2 : List aa) (cap3 : List Int) (cap4 : Int) (a1) (c1) (a2) (c2) (a3) (c3) (b1) (i1) (b2) (i2) (b3) (i3) (b4) (i4) (Q : Bool -> Prop) (hm : VC43 i_ cap1 cap2 cap3 cap4 Q) (h1 : RS au w0 X0 a1 cap1 c1) (h2 : RS aq w0 X0 a2 cap2 c2) (h3 : RS tI w0 X0 a3 cap3 c3) (hc1 : Cell w0 X0 b1 i1 58 [.slice a1 cap1.length c1]) (hc2 : Cell w0 X0 b2 i2 35 [.slice a2 cap2.length c2]) (hc3 : Cell w0 X0 b3 i3 36 [.slice a3 cap3.length c3]) (hc4 : Cell w0 X0 b4 i4 3 [.int .i64 cap4]) (hA : cH [i1, i2, i3, i4]) :
  Ret Try.prog 43 #[.int .i64 i_, .pointer (some ⟨b1, 0, none⟩), .pointer (some ⟨b2, 0, none⟩), .pointer (some ⟨b3, 0, none⟩), .pointer (some ⟨b4, 0, none⟩)] (pR [i1, i2, i3, i4]) w0 X0 (fun w X' v => ∃ r, Q r /\ v = .bool r /\ Cell w X' b1 i1 58 [.slice a1 cap1.length c1] /\ Cell w X' b2 i2 35 [.slice a2 cap2.length c2] /\ Cell w X' b3 i3 36 [.slice a3 cap3.length c3] /\ Cell w X' b4 i4 3 [.int .i64 cap4]) := by
 unfold VC43 at hm
 replace hm := hm (h1.sm kr)
 replace hm := hm (h2.sm kr)
 replace hm := hm (h3.sm kr)
 refine dI Try.func43 rfl (cy (zL3g1 i1 i2 i3 i4)) (fun id => (bif Nat.beq id 901 then b1 else (bif Nat.beq id 902 then b2 else (bif Nat.beq id 903 then b3 else (bif Nat.beq id 904 then b4 else 0))))) (args := [I i_, Pt 901 0, Pt 902 0, Pt 903 0, Pt 904 0]) (bxs := [(901, (58, [Sl a1 cap1 c1])), (902, (35, [Sl a2 cap2 c2])), (903, (36, [Sl a3 cap3 c3])), (904, (3, [I cap4]))]) kr rfl (a8.cons kr (hc1.map (bn 0 hA.1 rfl)) (a8.cons kr (hc2.map (bn 1 hA.1 rfl)) (a8.cons kr (hc3.map (bn 2 hA.1 rfl)) (a8.cons kr (hc4.map (bn 3 hA.1 rfl)) a8.nil)))) (dA (fun q hq => (hA.2 q.1 (List.mem_map.2 ⟨q, hq, rfl⟩)).1)) ?_
 intro a hS hO hM
 have hP : Pin [(901, b1), (902, b2), (903, b3), (904, b4)] (fun id => (bif Nat.beq id 901 then b1 else (bif Nat.beq id 902 then b2 else (bif Nat.beq id 903 then b3 else (bif Nat.beq id 904 then b4 else 0))))) := by intro q hq; simp at hq; rcases hq with rfl | rfl | rfl | rfl <;> rfl
 generalize (fun id => (bif Nat.beq id 901 then b1 else (bif Nat.beq id 902 then b2 else (bif Nat.beq id 903 then b3 else (bif Nat.beq id 904 then b4 else 0))))) = Z at hS hP
 clear hc1 hc2 hc3 hc4
 replace h1 := h1.m0 hM
 replace h2 := h2.m0 hM
 replace h3 := h3.m0 hM
 refine rPb T hS [(0, I i_), (1, Pt 901 0), (2, Pt 902 0), (3, Pt 903 0), (4, Pt 904 0)] fun a hS => ?_
 refine bb ?_
 refine oPb T hS 2 [(2, Pt 902 0), (3, Pt 903 0), (4, Pt 904 0), (8, Sl a1 cap1 c1), (9, I i_)] fun a hS => ?_
 obtain ⟨hq, hm⟩ := hm
 refine op1 (index (e := 100) (k := .i64) T hS kr kr kr kr h1 kr kr hq.1 hq.2 ?_)
 intro A101 a h102 hS
 refine op1 (fa (off := 0) (fsz := 1) (ft := 3) (TF := tI) (y := (gi cap1 i_).Oper) T hS kr kr kr h102 kr kr kr (fun cs h => mz h) ?_)
 intro A103 a h104 hS
 refine op1 (ec T hS kr kr kr h104 rfl kr ?_)
 intro v105 a hv hS
 cases hv
 refine ePb T hS [(2, Pt 902 0), (3, Pt 903 0), (4, Pt 904 0), (7, I ((gi cap1 i_).Oper))] fun a hS => ?_
 refine ct [901, 902, 903, 904] mixed hS ?_
 intro w106 X107 hS hE hD hH
 replace hO := hO.m2 hE
 replace h1 := h1.m1 hE
 replace h2 := h2.m1 hE
 replace h3 := h3.m1 hE
 refine tkb T [0, 1, 2] [901, 902, 903, 904] hS hH #[true, true, true, false, false, false, false, false, false, false, false, false, false, false, false, false, false] 14 [(2, Pt 902 0), (3, Pt 903 0), (4, Pt 904 0), (7, I ((gi cap1 i_).Oper)), (15, B (decide (((gi cap1 i_).Oper) < 0)))] fun a hS => ?_
 refine fX (tc := 15) (b := decide (((gi cap1 i_).Oper) < 0)) (f := fun c => ⟨[(3, Pt 903 0), (4, Pt 904 0), (7, I ((gi cap1 i_).Oper)), (20, B (c || (decide (((gi cap1 i_).Oper) ≥ (lN cap2)))))], [(901, (58, [Sl a1 cap1 c1])), (902, (35, [Sl a2 cap2 c2])), (903, (36, [Sl a3 cap3 c3])), (904, (3, [I cap4]))]⟩) T [3, 4, 5, 6, 7] [901, 902, 903, 904] [3, 4, 7, 20] hS kr kr kr kr hH (listed' := #[true, true, true, true, true, true, true, true, false, false, false, false, false, false, false, false, false]) (fuel := 9) kr kr (by rfl) ?_
 intro a hS
 refine tkb T [8] [901, 902, 903, 904] hS hH #[true, true, true, true, true, true, true, true, true, false, false, false, false, false, false, false, false] 8 [(3, Pt 903 0), (4, Pt 904 0), (7, I ((gi cap1 i_).Oper)), (21, B ((decide (((gi cap1 i_).Oper) < 0)) || (decide (((gi cap1 i_).Oper) ≥ (lN cap2)))))] fun a hS => ?_
 rcases bft ((decide (((gi cap1 i_).Oper) < 0)) || (decide (((gi cap1 i_).Oper) ≥ (lN cap2)))) with hb | hb
 ·replace hS := hS.lit (t := 21) kr hb
  replace hm := hm.1 hb
  refine tkb T [9, 10, 13, 11, 12, 14, 15, 16] [901, 902, 903, 904] hS hH (tts 17) 0 [(6, B true)] fun a hS => ?_
  refine aM kr ?_
  replace hS := hS.slb [(6, B true)]
  refine aU ?_
  exact eA T hS hO (fun c h => bu kr h) (fun c h => bw (l := (zL3g1 i1 i2 i3 i4)) h) (bq (zL3g1 i1 i2 i3 i4)) rfl (r := [.bool true]) kr (fun X' hM hC => ⟨true, hm, rfl, ((hS.cell (id := 901) (t := 58) (cs := [Sl a1 cap1 c1]) kr).out (f := (bq (zL3g1 i1 i2 i3 i4))) hC kr kr (hP.at 0 rfl)), ((hS.cell (id := 902) (t := 35) (cs := [Sl a2 cap2 c2]) kr).out (f := (bq (zL3g1 i1 i2 i3 i4))) hC kr kr (hP.at 1 rfl)), ((hS.cell (id := 903) (t := 36) (cs := [Sl a3 cap3 c3]) kr).out (f := (bq (zL3g1 i1 i2 i3 i4))) hC kr kr (hP.at 2 rfl)), ((hS.cell (id := 904) (t := 3) (cs := [I cap4]) kr).out (f := (bq (zL3g1 i1 i2 i3 i4))) hC kr kr (hP.at 3 rfl))⟩)
 replace hS := hS.lit (t := 21) kr hb
 replace hm := hm.2 hb
 refine tkb T [9, 10, 13] [901, 902, 903, 904] hS hH #[true, true, true, true, true, true, true, true, true, true, true, false, false, true, false, false, false] 5 [(21, B false), (22, Sl a3 cap3 c3), (23, I ((gi cap1 i_).Oper)), (26, I cap4)] fun a hS => ?_
 obtain ⟨hq, hm⟩ := hm
 refine cD (e := 3) (k := .i64) T 11 hS kr kr kr (by rfl) kr hH kr kr h3 kr kr hq.1 hq.2 ?_
 intro A108 a h109 hS
 have h109b := h109.here
 refine dB T 12 hS kr kr kr (by rfl) kr hH kr h109 h109b rfl kr ?_
 intro v110 a hv hS
 cases hv
 refine tkb T [14, 15, 16] [901, 902, 903, 904] hS hH (tts 17) 0 [(6, B ((gi cap3 ((gi cap1 i_).Oper)) == cap4))] fun a hS => ?_
 refine aM kr ?_
 replace hS := hS.slb [(6, B ((gi cap3 ((gi cap1 i_).Oper)) == cap4))]
 refine aU ?_
 exact eA T hS hO (fun c h => bu kr h) (fun c h => bw (l := (zL3g1 i1 i2 i3 i4)) h) (bq (zL3g1 i1 i2 i3 i4)) rfl (r := [.bool ((gi cap3 ((gi cap1 i_).Oper)) == cap4)]) kr (fun X' hM hC => ⟨((gi cap3 ((gi cap1 i_).Oper)) == cap4), hm, rfl, ((hS.cell (id := 901) (t := 58) (cs := [Sl a1 cap1 c1]) kr).out (f := (bq (zL3g1 i1 i2 i3 i4))) hC kr kr (hP.at 0 rfl)), ((hS.cell (id := 902) (t := 35) (cs := [Sl a2 cap2 c2]) kr).out (f := (bq (zL3g1 i1 i2 i3 i4))) hC kr kr (hP.at 1 rfl)), ((hS.cell (id := 903) (t := 36) (cs := [Sl a3 cap3 c3]) kr).out (f := (bq (zL3g1 i1 i2 i3 i4))) hC kr kr (hP.at 2 rfl)), ((hS.cell (id := 904) (t := 3) (cs := [I cap4]) kr).out (f := (bq (zL3g1 i1 i2 i3 i4))) hC kr kr (hP.at 3 rfl))⟩)
theorem C43 (v : ∀ (i_ : Int) (cap1 : List ah) (cap2 : List aa) (cap3 : List Int) (cap4 : Int), nt i_ cap1 cap2 cap3 cap4 -> VC43 i_ cap1 cap2 cap3 cap4 (fun r => r = cA i_ cap1 cap2 cap3 cap4)) : S43 := by
 intro w X i_ cap1 cap2 cap3 cap4 a1 c1 a2 c2 a3 c3  b1 i1 b2 i2 b3 i3 b4 i4 hp h1 h2 h3 hc1 hc2 hc3 hc4 hA
 refine (W43 w X i_ cap1 cap2 cap3 cap4 a1 c1 a2 c2 a3 c3  b1 i1 b2 i2 b3 i3 b4 i4 _ (v i_ cap1 cap2 cap3 cap4 hp) h1 h2 h3 hc1 hc2 hc3 hc4 hA).mono ?_
 rintro _ _ _ _ ⟨r, rfl, h⟩
 exact h
theorem W42_43 (k43 : S43) (w0) (X0) (l_ : List ah) (cap1 : List ah) (cap2 : List aa) (cap3 : List Int) (cap4 : Int) (a1) (c1) (a2) (c2) (a3) (c3) (a4) (c4) (b1) (i1) (b2) (i2) (b3) (i3) (b4) (i4) (Q : (List ah) -> Prop) (hm : VC42_43 l_ cap1 cap2 cap3 cap4 Q) (h1 : RS au w0 X0 a1 l_ c1) (h2 : RS au w0 X0 a2 cap1 c2) (h3 : RS aq w0 X0 a3 cap2 c3) (h4 : RS tI w0 X0 a4 cap3 c4) (hc1 : Cell w0 X0 b1 i1 58 [.slice a2 cap1.length c2]) (hc2 : Cell w0 X0 b2 i2 35 [.slice a3 cap2.length c3]) (hc3 : Cell w0 X0 b3 i3 36 [.slice a4 cap3.length c4]) (hc4 : Cell w0 X0 b4 i4 3 [.int .i64 cap4]) (hA : cH [i1, i2, i3, i4]) :
  Ret Try.prog 42 #[.slice a1 l_.length c1, .func (.func 43) #[] #[.pointer (some ⟨b1, 0, none⟩), .pointer (some ⟨b2, 0, none⟩), .pointer (some ⟨b3, 0, none⟩), .pointer (some ⟨b4, 0, none⟩)]] (pR [i1, i2, i3, i4]) w0 X0 (fun w X' v => ∃ r, Q r /\ ∃ ra1 rc1, v = .slice ra1 r.length rc1 /\ RS au w X' ra1 r rc1 /\ Cell w X' b1 i1 58 [.slice a2 cap1.length c2] /\ Cell w X' b2 i2 35 [.slice a3 cap2.length c3] /\ Cell w X' b3 i3 36 [.slice a4 cap3.length c4] /\ Cell w X' b4 i4 3 [.int .i64 cap4]) := by
 unfold VC42_43 at hm
 replace hm := hm (h1.sm kr)
 replace hm := hm (h2.sm kr)
 replace hm := hm (h3.sm kr)
 replace hm := hm (h4.sm kr)
 refine dI Try.func42 rfl (cy (zL3g1 i1 i2 i3 i4)) (fun id => (bif Nat.beq id 901 then b1 else (bif Nat.beq id 902 then b2 else (bif Nat.beq id 903 then b3 else (bif Nat.beq id 904 then b4 else 0))))) (args := [Sl a1 l_ c1, .f (.func 43) [] [.p 901 0, .p 902 0, .p 903 0, .p 904 0]]) (bxs := [(901, (58, [Sl a2 cap1 c2])), (902, (35, [Sl a3 cap2 c3])), (903, (36, [Sl a4 cap3 c4])), (904, (3, [I cap4]))]) kr rfl (a8.cons kr (hc1.map (bn 0 hA.1 rfl)) (a8.cons kr (hc2.map (bn 1 hA.1 rfl)) (a8.cons kr (hc3.map (bn 2 hA.1 rfl)) (a8.cons kr (hc4.map (bn 3 hA.1 rfl)) a8.nil)))) (dA (fun q hq => (hA.2 q.1 (List.mem_map.2 ⟨q, hq, rfl⟩)).1)) ?_
 intro a hS hO hM
 have hP : Pin [(901, b1), (902, b2), (903, b3), (904, b4)] (fun id => (bif Nat.beq id 901 then b1 else (bif Nat.beq id 902 then b2 else (bif Nat.beq id 903 then b3 else (bif Nat.beq id 904 then b4 else 0))))) := by intro q hq; simp at hq; rcases hq with rfl | rfl | rfl | rfl <;> rfl
 generalize (fun id => (bif Nat.beq id 901 then b1 else (bif Nat.beq id 902 then b2 else (bif Nat.beq id 903 then b3 else (bif Nat.beq id 904 then b4 else 0))))) = Z at hS hP
 clear hc1 hc2 hc3 hc4
 replace h1 := h1.m0 hM
 replace h2 := h2.m0 hM
 replace h3 := h3.m0 hM
 replace h4 := h4.m0 hM
 refine rPb T hS [(0, Sl a1 l_ c1), (1, .f (.func 43) [] [.p 901 0, .p 902 0, .p 903 0, .p 904 0])] fun a hS => ?_
 refine rPb T hS [(0, Sl a1 l_ c1), (1, .f (.func 43) [] [.p 901 0, .p 902 0, .p 903 0, .p 904 0]), (5, V (.slice none 0 0))] fun a hS => ?_
 refine bU (fun a w => ∃ (Z : Nat -> Nat) (X : Nat -> Nat) (y101 : List ah) (a102 : Option Addr) (c103 : Nat), VC42_43_J1 Q y101 /\ St Try.f42.ntmps ⟨[(5, Sl a102 y101 c103)], [(901, (58, [Sl a2 cap1 c2])), (902, (35, [Sl a3 cap2 c3])), (903, (36, [Sl a4 cap3 c4])), (904, (3, [I cap4]))]⟩ Z a w X /\ dR (cy (zL3g1 i1 i2 i3 i4)) w0 X0 w X /\ Pin [(901, b1), (902, b2), (903, b3), (904, b4)] Z /\ OS au 100 w X 1005 a102 y101 c103 /\ RS au w X a2 cap1 c2 /\ RS aq w X a3 cap2 c3 /\ RS tI w X a4 cap3 c4) ?_ ?_
 ·refine rPb T hS [(1, .f (.func 43) [] [.p 901 0, .p 902 0, .p 903 0, .p 904 0]), (5, V (.slice none 0 0)), (8, Sl a1 l_ c1), (9, I (lN l_)), (10, I 0)] fun a hS => ?_
  refine aO ?_
  obtain ⟨I1, μ1, hm0, hm⟩ := hm
  refine b8 (σ := (List ah) × Int) (fun s a w => ∃ Z X a111 c112, I1 s.1 s.2 /\ St Try.f42.ntmps ⟨[(1, .f (.func 43) [] [.p 901 0, .p 902 0, .p 903 0, .p 904 0]), (5, Sl a111 s.1 c112), (8, Sl a1 l_ c1), (9, I (lN l_)), (10, I s.2)], [(901, (58, [Sl a2 cap1 c2])), (902, (35, [Sl a3 cap2 c3])), (903, (36, [Sl a4 cap3 c4])), (904, (3, [I cap4]))]⟩ Z a w X /\ dR (cy (zL3g1 i1 i2 i3 i4)) w0 X0 w X /\ Pin [(901, b1), (902, b2), (903, b3), (904, b4)] Z /\ OS au 100 w X 1005 a111 s.1 c112 /\ RS au w X a1 l_ c1 /\ RS au w X a2 cap1 c2 /\ RS aq w X a3 cap2 c3 /\ RS tI w X a4 cap3 c4) (fun s => μ1 s.1 s.2) (⟨[], 0⟩) ?_ ?_
  ·exact ⟨Z, _, none, 0, hm0, hS.sl _, hO, hP, (OS.nil _ _ _ _ _), h1, h2, h3, h4⟩
  rintro ⟨y110, y115⟩ a w152 ⟨Z, X151, a111, c112, hI, hS, hO, hP, h113, h114, h116, h117, h118⟩
  replace hm := hm y110 y115 hI
  clear hI hm0
  refine rPb T hS [(1, .f (.func 43) [] [.p 901 0, .p 902 0, .p 903 0, .p 904 0]), (5, Sl a111 y110 c112), (8, Sl a1 l_ c1), (9, I (lN l_)), (10, I y115), (11, B (decide (y115 < (lN l_))))] fun a hS => ?_
  refine ba ?_
  refine aG hS (b := decide (y115 < (lN l_))) kr (fun hb => ?_) fun hb => ?_
  ·replace hm := hm.1 hb
   refine aJ ?_
   refine bU (fun a w => ∃ (Z : Nat -> Nat) (X : Nat -> Nat) (y119 : List ah) (a120 : Option Addr) (c121 : Nat), VC42_43_J2 I1 μ1 y110 y115 y119 /\ St Try.f42.ntmps ⟨[(1, .f (.func 43) [] [.p 901 0, .p 902 0, .p 903 0, .p 904 0]), (5, Sl a120 y119 c121), (8, Sl a1 l_ c1), (9, I (lN l_)), (10, I y115)], [(901, (58, [Sl a2 cap1 c2])), (902, (35, [Sl a3 cap2 c3])), (903, (36, [Sl a4 cap3 c4])), (904, (3, [I cap4]))]⟩ Z a w X /\ dR (cy (zL3g1 i1 i2 i3 i4)) w0 X0 w X /\ Pin [(901, b1), (902, b2), (903, b3), (904, b4)] Z /\ OS au 100 w X 1005 a120 y119 c121 /\ RS au w X a1 l_ c1 /\ RS au w X a2 cap1 c2 /\ RS aq w X a3 cap2 c3 /\ RS tI w X a4 cap3 c4) ?_ ?_
   ·refine aO ?_
    refine bb ?_
    refine oPb T hS 1 [(1, .f (.func 43) [] [.p 901 0, .p 902 0, .p 903 0, .p 904 0]), (5, Sl a111 y110 c112), (8, Sl a1 l_ c1), (9, I (lN l_)), (10, I y115), (12, I y115)] fun a hS => ?_
    obtain ⟨hq, hm⟩ := hm
    refine op1 (index (e := 100) (k := .i64) T hS kr kr kr kr h114 kr kr hq.1 hq.2 ?_)
    intro A127 a h128 hS
    refine op1 (di T hS kr kr kr h128 kr kr ?_)
    intro v129 a hv hS
    subst hv
    refine eM T hS ⟨[(1, .f (.func 43) [] [.p 901 0, .p 902 0, .p 903 0, .p 904 0]), (5, Sl a111 y110 c112), (6, I y115), (7, Pt 8 0), (8, Sl a1 l_ c1), (9, I (lN l_)), (10, I y115)], [(8, (100, (cK (gi l_ y115)))), (901, (58, [Sl a2 cap1 c2])), (902, (35, [Sl a3 cap2 c3])), (903, (36, [Sl a4 cap3 c4])), (904, (3, [I cap4]))]⟩ fun Z a w147 X148 hS hE hr => ?_
    replace hO := hO.m2 hE
    replace h113 := h113.m2 hE
    replace h114 := h114.m1 hE
    replace h116 := h116.m1 hE
    replace h117 := h117.m1 hE
    replace h118 := h118.m1 hE
    replace hP := hP.mv hr kr
    clear hE hr
    refine bb ?_
    refine oPb T hS 2 [(1, .f (.func 43) [] [.p 901 0, .p 902 0, .p 903 0, .p 904 0]), (5, Sl a111 y110 c112), (7, Pt 8 0), (8, Sl a1 l_ c1), (9, I (lN l_)), (10, I y115), (15, .f (.func 43) [] [.p 901 0, .p 902 0, .p 903 0, .p 904 0]), (16, I y115)] fun a hS => ?_
    obtain ⟨hq, hm⟩ := hm
    refine op1 (fR (fi := []) (cp := [.p 901 0, .p 902 0, .p 903 0, .p 904 0]) hS kr kr hb43 kr kr (k43 _ _ y115 cap1 cap2 cap3 cap4 a2 c2 a3 c3 a4 c4 (Z 901) 901 (Z 902) 902 (Z 903) 903 (Z 904) 904 hq h116 h117 h118 (hS.cell (id := 901) (t := 58) (cs := [Sl a2 cap1 c2]) kr) (hS.cell (id := 902) (t := 35) (cs := [Sl a3 cap2 c3]) kr) (hS.cell (id := 903) (t := 36) (cs := [Sl a4 cap3 c4]) kr) (hS.cell (id := 904) (t := 3) (cs := [I cap4]) kr) ⟨by decide, by decide⟩) ?_)
    intro v130 a w131 X132 hE hp hS
    replace hO := hO.m2 hE
    replace h113 := h113.m2 hE
    replace h114 := h114.m1 hE
    replace h116 := h116.m1 hE
    replace h117 := h117.m1 hE
    replace h118 := h118.m1 hE
    obtain ⟨hp, hc134, hc135, hc136, hc137⟩ := hp
    obtain ⟨r133, hr⟩ : ∃ r, cA y115 cap1 cap2 cap3 cap4 = r := ⟨_, rfl⟩
    replace hm := hm r133 hr
    rw [hr] at hp
    clear hr
    subst hp
    replace hS := hS.bQ (id := 901) (t := 58) (cs := [Sl a2 cap1 c2]) kr hc134
    replace hS := hS.bQ (id := 902) (t := 35) (cs := [Sl a3 cap2 c3]) kr hc135
    replace hS := hS.bQ (id := 903) (t := 36) (cs := [Sl a4 cap3 c4]) kr hc136
    replace hS := hS.bQ (id := 904) (t := 3) (cs := [I cap4]) kr hc137
    clear hc134 hc135 hc136 hc137
    refine eO ?_
    refine aG hS (b := r133) kr (fun hb => ?_) fun hb => ?_
    ·replace hm := hm.1 hb
     refine region ?_
     refine oP T hS 2 ⟨[(1, .f (.func 43) [] [.p 901 0, .p 902 0, .p 903 0, .p 904 0]), (5, Sl a111 y110 c112), (8, Sl a1 l_ c1), (9, I (lN l_)), (10, I y115), (18, Sl a111 y110 c112), (19, V (.agg #[.int .i64 ((gi l_ y115).Oper), .int .i64 ((gi l_ y115).Result)]))], [(901, (58, [Sl a2 cap1 c2])), (902, (35, [Sl a3 cap2 c3])), (903, (36, [Sl a4 cap3 c4])), (904, (3, [I cap4]))]⟩ fun a hS => ?_
     refine op1 (lit (E := 100) (col := 0) (T := au) (vals := [.agg #[.int .i64 ((gi l_ y115).Oper), .int .i64 ((gi l_ y115).Result)]]) (ys := [(gi l_ y115)]) T hS kr kr kr kr (by exact ⟨rfl, trivial⟩) rfl kr kr kr kr ?_)
     intro b138 a w139 X140 hE h141 hN hS
     clear hN
     replace hO := hO.m2 hE
     replace h113 := h113.m2 hE
     replace h114 := h114.m1 hE
     replace h116 := h116.m1 hE
     replace h117 := h117.m1 hE
     replace h118 := h118.m1 hE
     replace h141 := h141.rs0
     obtain ⟨hq, hm⟩ := hm
     obtain ⟨news, hN⟩ := h141.src
     refine op1 (append (E := 100) (T := au) (col := 1005) (xs := y110) T hS kr kr kr kr h113 hN kr kr kr kr hq ?_)
     intro a145 c146 a w142 X143 hE h144 hS
     clear hq hN
     clear h113
     replace hO := hO.m2 hE
     replace h114 := h114.m1 hE
     replace h116 := h116.m1 hE
     replace h117 := h117.m1 hE
     replace h118 := h118.m1 hE
     replace h141 := h141.m1 hE
     refine ePb T hS [(1, .f (.func 43) [] [.p 901 0, .p 902 0, .p 903 0, .p 904 0]), (5, Sl a145 (y110 ++ [(gi l_ y115)]) c146), (8, Sl a1 l_ c1), (9, I (lN l_)), (10, I y115)] fun a hS => ?_
     exact ⟨Z, _, y110 ++ [(gi l_ y115)], a145, c146, hm, hS.sl _, hO, hP, h144, h114, h116, h117, h118⟩
    replace hm := hm.2 hb
    refine aJ ?_
    exact ⟨Z, _, y110, a111, c112, hm, hS.sl _, hO, hP, h113, h114, h116, h117, h118⟩
   rintro a w150 ⟨Z, X149, y119, a120, c121, hm, hS, hO, hP, h122, h123, h124, h125, h126⟩
   unfold VC42_43_J2 at hm
   refine region (ePb T hS [(1, .f (.func 43) [] [.p 901 0, .p 902 0, .p 903 0, .p 904 0]), (5, Sl a120 y119 c121), (8, Sl a1 l_ c1), (9, I (lN l_)), (10, I (wR (y115 + 1)))] fun a hS => ?_)
   exact ⟨⟨y119, wR (y115 + 1)⟩, ⟨Z, _, a120, c121, hm.1, hS.sl _, hO, hP, h122, h123, h124, h125, h126⟩, hm.2⟩
  replace hm := hm.2 hb
  refine b0 (by rfl) ?_
  exact ⟨Z, _, y110, a111, c112, hm, hS.sl _, hO, hP, h113, h116, h117, h118⟩
 rintro a w154 ⟨Z, X153, y101, a102, c103, hm, hS, hO, hP, h104, h105, h106, h107⟩
 unfold VC42_43_J1 at hm
 refine rPb T hS [(4, Sl a102 y101 c103)] fun a hS => ?_
 refine aU ?_
 obtain ⟨X108, hE, hF⟩ := h104.freeze (by decide)
 replace hS := hS.ev hE (bW kr)
 replace hO := hO.m2 hE
 replace h105 := h105.m1 hE
 replace h106 := h106.m1 hE
 replace h107 := h107.m1 hE
 have h109 := hF; clear hE hF
 exact eA T hS hO (fun c h => bu kr h) (fun c h => bw (l := (zL3g1 i1 i2 i3 i4)) h) (bq (zL3g1 i1 i2 i3 i4)) rfl (r := [.slice a102 y101.length c103]) kr (fun X' hM hC => ⟨y101, hm, a102, c103, rfl, h109.m0 hM, ((hS.cell (id := 901) (t := 58) (cs := [Sl a2 cap1 c2]) kr).out (f := (bq (zL3g1 i1 i2 i3 i4))) hC kr kr (hP.at 0 rfl)), ((hS.cell (id := 902) (t := 35) (cs := [Sl a3 cap2 c3]) kr).out (f := (bq (zL3g1 i1 i2 i3 i4))) hC kr kr (hP.at 1 rfl)), ((hS.cell (id := 903) (t := 36) (cs := [Sl a4 cap3 c4]) kr).out (f := (bq (zL3g1 i1 i2 i3 i4))) hC kr kr (hP.at 2 rfl)), ((hS.cell (id := 904) (t := 3) (cs := [I cap4]) kr).out (f := (bq (zL3g1 i1 i2 i3 i4))) hC kr kr (hP.at 3 rfl))⟩)
theorem C42_43 (k43 : S43) (v : ∀ (l_ : List ah) (cap1 : List ah) (cap2 : List aa) (cap3 : List Int) (cap4 : Int), ns l_ cap1 cap2 cap3 cap4 -> VC42_43 l_ cap1 cap2 cap3 cap4 (fun r => r = bo l_ cap1 cap2 cap3 cap4)) : S42_43 := by
 intro w X l_ cap1 cap2 cap3 cap4 a1 c1 a2 c2 a3 c3 a4 c4  b1 i1 b2 i2 b3 i3 b4 i4 hp h1 h2 h3 h4 hc1 hc2 hc3 hc4 hA
 refine (W42_43 k43 w X l_ cap1 cap2 cap3 cap4 a1 c1 a2 c2 a3 c3 a4 c4  b1 i1 b2 i2 b3 i3 b4 i4 _ (v l_ cap1 cap2 cap3 cap4 hp) h1 h2 h3 h4 hc1 hc2 hc3 hc4 hA).mono ?_
 rintro _ _ _ _ ⟨r, rfl, h⟩
 exact h
theorem W21 (k42_43 : S42_43) (k44 : S44) (k45 : S45) (k46 : S46) (k6 : S6) (k9 : S9) (w0) (X0) (h_ : ak) (picks : List ah) (a1) (c1) (a2) (c2) (a3) (c3) (Q : Bool -> Prop) (hm : VC21 h_ picks Q) (h1 : RS aE w0 X0 a1 h_.ae c1) (h2 : RS aK w0 X0 a2 h_.aj c2) (h3 : RS au w0 X0 a3 picks c3) :
  Ret Try.prog 21 #[.agg #[.slice a1 h_.ae.length c1, .slice a2 h_.aj.length c2], .slice a3 picks.length c3] aF w0 X0 (fun w X' v => ∃ r, Q r /\ v = .bool r) := by
 unfold VC21 at hm
 replace hm := hm (h1.sm kr)
 replace hm := hm (h2.sm kr)
 replace hm := hm (h3.sm kr)
 refine enter Try.func21 rfl (vals := [.agg #[.slice a1 h_.ae.length c1, .slice a2 h_.aj.length c2], .slice a3 picks.length c3]) kr ?_
 intro Z a hS hO hM
 replace h1 := h1.m0 hM
 replace h2 := h2.m0 hM
 replace h3 := h3.m0 hM
 refine rM T hS ⟨[(2, Pt 3 0), (3, Pt 4 0)], [(3, (25, [Sl a1 h_.ae c1, Sl a2 h_.aj c2])), (4, (58, [Sl a3 picks c3]))]⟩ fun Z a w162 X163 hS hE hr => ?_
 replace hO := hO.m2 hE
 replace h1 := h1.m1 hE
 replace h2 := h2.m1 hE
 replace h3 := h3.m1 hE
 clear hE hr
 refine ba ?_
 refine bb ?_
 refine oPb T hS 1 [(2, Pt 3 0), (3, Pt 4 0), (16, V (.agg #[.slice a1 h_.ae.length c1, .slice a2 h_.aj.length c2]))] fun a hS => ?_
 obtain ⟨hq, hm⟩ := hm
 refine op1 (call hS kr kr hb6 kr (fun _ _ => rfl) (k6 _ _ h_ a1 c1 a2 c2 hq h1 h2) ?_)
 intro v101 a w102 X103 hE hp hS
 replace hO := hO.m2 hE
 replace h1 := h1.m1 hE
 replace h2 := h2.m1 hE
 replace h3 := h3.m1 hE
 obtain ⟨r104, hr⟩ : ∃ r, aV h_ = r := ⟨_, rfl⟩
 replace hm := hm r104 hr
 rw [hr] at hp
 clear hr
 subst hp
 refine ePb T hS [(2, Pt 3 0), (3, Pt 4 0), (6, I r104.2)] fun a hS => ?_
 refine rPb T hS [(2, Pt 3 0), (3, Pt 4 0), (21, B (r104.2 != 0))] fun a hS => ?_
 refine aG hS (b := (r104.2 != 0)) kr (fun hb => ?_) fun hb => ?_
 ·replace hm := hm.1 hb
  refine rP T hS ⟨[(4, B false)], []⟩ fun a hS => ?_
  refine aU ?_
  exact fin T hS hO (fun c => c) rfl (r := [.bool false]) kr (fun X' hM hC => ⟨false, hm, rfl⟩)
 replace hm := hm.2 hb
 refine aJ ?_
 refine bb ?_
 refine oPb T hS 1 [(2, Pt 3 0), (3, Pt 4 0), (23, V (.agg #[.slice a1 h_.ae.length c1, .slice a2 h_.aj.length c2]))] fun a hS => ?_
 obtain ⟨hq, hm⟩ := hm
 refine op1 (call hS kr kr hb9 kr (fun _ _ => rfl) (k9 _ _ h_ a1 c1 a2 c2 hq h1 h2) ?_)
 intro v105 a w106 X107 hE hp hS
 replace hO := hO.m2 hE
 replace h1 := h1.m1 hE
 replace h2 := h2.m1 hE
 replace h3 := h3.m1 hE
 obtain ⟨a109, c110, a112, c113, hp, h111, h114⟩ := hp
 obtain ⟨r108, hr⟩ : ∃ r, bP h_ = r := ⟨_, rfl⟩
 replace hm := hm r108 hr
 rw [hr] at hp h111 h114
 clear hr
 subst hp
 replace hm := hm (h111.sm kr)
 replace hm := hm (h114.sm kr)
 refine eM T hS ⟨[(2, Pt 3 0), (3, Pt 4 0), (7, Pt 8 0), (8, Pt 9 0)], [(3, (25, [Sl a1 h_.ae c1, Sl a2 h_.aj c2])), (4, (58, [Sl a3 picks c3])), (8, (35, [Sl a109 r108.1 c110])), (9, (36, [Sl a112 r108.2 c113]))]⟩ fun Z a w160 X161 hS hE hr => ?_
 replace hO := hO.m2 hE
 replace h1 := h1.m1 hE
 replace h2 := h2.m1 hE
 replace h3 := h3.m1 hE
 replace h111 := h111.m1 hE
 replace h114 := h114.m1 hE
 clear hE hr
 refine bU (fun a w => ∃ Z X, VC21_J1 picks Q r108 /\ St Try.f21.ntmps ⟨[(3, Pt 4 0), (7, Pt 8 0)], [(4, (58, [Sl a3 picks c3])), (8, (35, [Sl a109 r108.1 c110]))]⟩ Z a w X /\ Old w0 X0 w X /\ RS au w X a3 picks c3 /\ RS aq w X a109 r108.1 c110) ?_ ?_
 ·refine rP T hS ⟨[(3, Pt 4 0), (7, Pt 8 0), (8, Pt 9 0), (28, Sl a1 h_.ae c1), (29, I (lN h_.ae)), (30, I 0)], [(4, (58, [Sl a3 picks c3])), (8, (35, [Sl a109 r108.1 c110])), (9, (36, [Sl a112 r108.2 c113]))]⟩ fun a hS => ?_
  refine aO ?_
  obtain ⟨I1, μ1, hm0, hm⟩ := hm
  refine b8 (σ := Int) (fun s a w => ∃ Z X, I1 s /\ St Try.f21.ntmps ⟨[(3, Pt 4 0), (7, Pt 8 0), (8, Pt 9 0), (28, Sl a1 h_.ae c1), (29, I (lN h_.ae)), (30, I s)], [(4, (58, [Sl a3 picks c3])), (8, (35, [Sl a109 r108.1 c110])), (9, (36, [Sl a112 r108.2 c113]))]⟩ Z a w X /\ Old w0 X0 w X /\ RS aE w X a1 h_.ae c1 /\ RS au w X a3 picks c3 /\ RS aq w X a109 r108.1 c110 /\ RS tI w X a112 r108.2 c113) (fun s => μ1 s) (0) ?_ ?_
  ·exact ⟨Z, _, hm0, hS.sl _, hO, h1, h3, h111, h114⟩
  rintro y129 a w157 ⟨Z, X156, hI, hS, hO, h128, h130, h131, h132⟩
  replace hm := hm y129 hI
  clear hI hm0
  refine rPb T hS [(3, Pt 4 0), (7, Pt 8 0), (8, Pt 9 0), (28, Sl a1 h_.ae c1), (29, I (lN h_.ae)), (30, I y129), (31, B (decide (y129 < (lN h_.ae))))] fun a hS => ?_
  refine ba ?_
  refine aG hS (b := decide (y129 < (lN h_.ae))) kr (fun hb => ?_) fun hb => ?_
  ·replace hm := hm.1 hb
   refine aJ (ba ?_)
   refine aO ?_
   refine bb ?_
   refine oPb T hS 1 [(3, Pt 4 0), (7, Pt 8 0), (8, Pt 9 0), (28, Sl a1 h_.ae c1), (29, I (lN h_.ae)), (30, I y129), (32, I y129)] fun a hS => ?_
   obtain ⟨hq, hm⟩ := hm
   refine op1 (index (e := 42) (k := .i64) T hS kr kr kr kr h128 kr kr hq.1 hq.2 ?_)
   intro A133 a h134 hS
   refine op1 (di T hS kr kr kr h134 kr kr ?_)
   intro v135 a hv hS
   obtain ⟨a136, c137, hv, h138⟩ := hv
   subst hv
   replace hm := hm (h138.sm kr)
   refine eM T hS ⟨[(3, Pt 4 0), (7, Pt 8 0), (8, Pt 9 0), (9, Pt 10 0), (10, Pt 11 0), (28, Sl a1 h_.ae c1), (29, I (lN h_.ae)), (30, I y129)], [(4, (58, [Sl a3 picks c3])), (8, (35, [Sl a109 r108.1 c110])), (9, (36, [Sl a112 r108.2 c113])), (10, (3, [I y129])), (11, (42, (cO (gi h_.ae y129) a136 c137)))]⟩ fun Z a w154 X155 hS hE hr => ?_
   replace hO := hO.m2 hE
   replace h128 := h128.m1 hE
   replace h130 := h130.m1 hE
   replace h131 := h131.m1 hE
   replace h132 := h132.m1 hE
   replace h138 := h138.m1 hE
   clear hE hr
   refine bb ?_
   refine oPb T hS 2 [(3, Pt 4 0), (7, Pt 8 0), (8, Pt 9 0), (10, Pt 11 0), (28, Sl a1 h_.ae c1), (29, I (lN h_.ae)), (30, I y129), (35, Sl a3 picks c3), (36, .f (.func 43) [] [.p 4 0, .p 8 0, .p 9 0, .p 10 0])] fun a hS => ?_
   obtain ⟨hq, hm⟩ := hm
   refine op1 (gH hS kr kr hb42 kr (k42_43 _ _ picks picks r108.1 r108.2 y129 a3 c3 a3 c3 a109 c110 a112 c113 (Z 4) 4 (Z 8) 8 (Z 9) 9 (Z 10) 10 hq h130 h130 h131 h132 (hS.cell (id := 4) (t := 58) (cs := [Sl a3 picks c3]) kr) (hS.cell (id := 8) (t := 35) (cs := [Sl a109 r108.1 c110]) kr) (hS.cell (id := 9) (t := 36) (cs := [Sl a112 r108.2 c113]) kr) (hS.cell (id := 10) (t := 3) (cs := [I y129]) kr) ⟨by decide, by decide⟩) ?_)
   intro v139 a w140 X141 hE hp hS
   replace hO := hO.m2 hE
   replace h128 := h128.m1 hE
   replace h130 := h130.m1 hE
   replace h131 := h131.m1 hE
   replace h132 := h132.m1 hE
   replace h138 := h138.m1 hE
   obtain ⟨a143, c144, hp, h145, hc146, hc147, hc148, hc149⟩ := hp
   obtain ⟨r142, hr⟩ : ∃ r, bo picks picks r108.1 r108.2 y129 = r := ⟨_, rfl⟩
   replace hm := hm r142 hr
   rw [hr] at hp h145
   clear hr
   subst hp
   replace hm := hm (h145.sm kr)
   replace hS := hS.bQ (id := 4) (t := 58) (cs := [Sl a3 picks c3]) kr hc146
   replace hS := hS.bQ (id := 8) (t := 35) (cs := [Sl a109 r108.1 c110]) kr hc147
   replace hS := hS.bQ (id := 9) (t := 36) (cs := [Sl a112 r108.2 c113]) kr hc148
   replace hS := hS.bQ (id := 10) (t := 3) (cs := [I y129]) kr hc149
   clear hc146 hc147 hc148 hc149
   refine eP T hS ⟨[(3, Pt 4 0), (7, Pt 8 0), (8, Pt 9 0), (10, Pt 11 0), (11, Sl a143 r142 c144), (28, Sl a1 h_.ae c1), (29, I (lN h_.ae)), (30, I y129)], [(4, (58, [Sl a3 picks c3])), (8, (35, [Sl a109 r108.1 c110])), (9, (36, [Sl a112 r108.2 c113])), (11, (42, (cO (gi h_.ae y129) a136 c137)))]⟩ fun a hS => ?_
   refine bb ?_
   refine oP T hS 3 ⟨[(3, Pt 4 0), (7, Pt 8 0), (8, Pt 9 0), (28, Sl a1 h_.ae c1), (29, I (lN h_.ae)), (30, I y129), (39, V (.agg #[.int .i64 ((gi h_.ae y129).ao), .int .i64 ((gi h_.ae y129).av), .int .i64 ((gi h_.ae y129).aC), .slice a136 ((gi h_.ae y129).Rows).length c137])), (40, Sl a109 r108.1 c110), (41, Sl a143 r142 c144)], [(4, (58, [Sl a3 picks c3])), (8, (35, [Sl a109 r108.1 c110])), (9, (36, [Sl a112 r108.2 c113]))]⟩ fun a hS => ?_
   obtain ⟨hq, hm⟩ := hm
   refine op1 (call hS kr kr hb44 kr (fun _ _ => rfl) (k44 _ _ (gi h_.ae y129) r108.1 r142 a136 c137 a109 c110 a143 c144 hq h138 h131 h145) ?_)
   intro v150 a w151 X152 hE hp hS
   replace hO := hO.m2 hE
   replace h128 := h128.m1 hE
   replace h130 := h130.m1 hE
   replace h131 := h131.m1 hE
   replace h132 := h132.m1 hE
   replace h138 := h138.m1 hE
   replace h145 := h145.m1 hE
   obtain ⟨r153, hr⟩ : ∃ r, cr (gi h_.ae y129) r108.1 r142 = r := ⟨_, rfl⟩
   replace hm := hm r153 hr
   rw [hr] at hp
   clear hr
   subst hp
   refine ePb T hS [(3, Pt 4 0), (7, Pt 8 0), (8, Pt 9 0), (14, I r153.2.2), (28, Sl a1 h_.ae c1), (29, I (lN h_.ae)), (30, I y129)] fun a hS => ?_
   refine rPb T hS [(3, Pt 4 0), (7, Pt 8 0), (8, Pt 9 0), (28, Sl a1 h_.ae c1), (29, I (lN h_.ae)), (30, I y129), (47, B (r153.2.2 != 0))] fun a hS => ?_
   refine aG hS (b := (r153.2.2 != 0)) kr (fun hb => ?_) fun hb => ?_
   ·replace hm := hm.1 hb
    refine rP T hS ⟨[(4, B false)], []⟩ fun a hS => ?_
    refine aU ?_
    exact fin T hS hO (fun c => c) rfl (r := [.bool false]) kr (fun X' hM hC => ⟨false, hm, rfl⟩)
   replace hm := hm.2 hb
   refine aJ ?_
   refine region (ePb T hS [(3, Pt 4 0), (7, Pt 8 0), (8, Pt 9 0), (28, Sl a1 h_.ae c1), (29, I (lN h_.ae)), (30, I (wR (y129 + 1)))] fun a hS => ?_)
   exact ⟨wR (y129 + 1), ⟨Z, _, hm.1, hS.sl _, hO, h128, h130, h131, h132⟩, hm.2⟩
  replace hm := hm.2 hb
  refine b0 (by rfl) ?_
  exact ⟨Z, _, hm, hS.sl _, hO, h130, h131⟩
 rintro a w159 ⟨Z, X158, hm, hS, hO, h115, h116⟩
 unfold VC21_J1 at hm
 refine bb ?_
 refine oPb T hS 2 [(3, Pt 4 0), (7, Pt 8 0), (49, Sl a109 r108.1 c110), (50, Sl a3 picks c3)] fun a hS => ?_
 refine op1 (call hS kr kr hb45 kr (fun _ _ => rfl) (k45 _ _ r108.1 picks a109 c110 a3 c3 h116 h115) ?_)
 intro v117 a w118 X119 hE hp hS
 replace hO := hO.m2 hE
 replace h115 := h115.m1 hE
 replace h116 := h116.m1 hE
 obtain ⟨r120, hr⟩ : ∃ r, bR r108.1 picks = r := ⟨_, rfl⟩
 replace hm := hm r120 hr
 rw [hr] at hp
 clear hr
 subst hp
 refine oPb T hS 2 [(3, Pt 4 0), (7, Pt 8 0), (53, B (decide (r120 < 0)))] fun a hS => ?_
 rcases bft (decide (r120 < 0)) with hb | hb
 ·replace hS := hS.lit (t := 53) kr hb
  replace hm := hm.1 hb
  refine oP T hS 2 ⟨[(53, B true), (54, Sl a109 r108.1 c110), (55, Sl a3 picks c3)], []⟩ fun a hS => ?_
  obtain ⟨hq, hm⟩ := hm
  refine op1 (call hS kr kr hb46 kr (fun _ _ => rfl) (k46 _ _ r108.1 picks a109 c110 a3 c3 hq h116 h115) ?_)
  intro v121 a w122 X123 hE hp hS
  replace hO := hO.m2 hE
  replace h115 := h115.m1 hE
  replace h116 := h116.m1 hE
  obtain ⟨a125, c126, hp, h127⟩ := hp
  obtain ⟨r124, hr⟩ : ∃ r, bO r108.1 picks = r := ⟨_, rfl⟩
  replace hm := hm r124 hr
  rw [hr] at hp h127
  clear hr
  subst hp
  replace hm := hm (h127.sm kr)
  refine ePb T hS [(4, B ((lN r124) == 0))] fun a hS => ?_
  refine aU ?_
  exact fin T hS hO (fun c => c) rfl (r := [.bool ((lN r124) == 0)]) kr (fun X' hM hC => ⟨((lN r124) == 0), hm, rfl⟩)
 replace hS := hS.lit (t := 53) kr hb
 replace hm := hm.2 hb
 refine eP T hS ⟨[(4, B false)], []⟩ fun a hS => ?_
 refine aU ?_
 exact fin T hS hO (fun c => c) rfl (r := [.bool false]) kr (fun X' hM hC => ⟨false, hm, rfl⟩)
theorem C21 (k42_43 : S42_43) (k44 : S44) (k45 : S45) (k46 : S46) (k6 : S6) (k9 : S9) (v : ∀ (h_ : ak) (picks : List ah), lW h_ picks -> VC21 h_ picks (fun r => r = dT h_ picks)) : S21 := by
 intro w X h_ picks a1 c1 a2 c2 a3 c3   hp h1 h2 h3
 refine (W21 k42_43 k44 k45 k46 k6 k9 w X h_ picks a1 c1 a2 c2 a3 c3   _ (v h_ picks hp) h1 h2 h3).mono ?_
 rintro _ _ _ _ ⟨r, rfl, h⟩
 exact h
theorem W22 (w0) (X0) (Q : ai -> Prop) (hm : VC22 Q) :
  Ret Try.prog 22 #[] aF w0 X0 (fun w X' v => ∃ r, Q r /\ ∃ ra1 rc1, v = .agg #[.int .i64 r.ao, .int .i64 r.av, .int .i64 r.aC, .slice ra1 r.Rows.length rc1] /\ RS aw w X' ra1 r.Rows rc1) := by
 unfold VC22 at hm
 refine enter Try.func22 rfl (vals := []) kr ?_
 intro Z a hS hO hM
 refine rM T hS ⟨[(0, Pt 1 0)], [(1, (42, [I 0, I 0, I 0, V (.slice none 0 0)]))]⟩ fun Z a w107 X108 hS hE hr => ?_
 replace hO := hO.m2 hE
 clear hE hr
 refine bb ?_
 refine oPb T hS 4 [(0, Pt 1 0), (1, V (.agg #[.int .i64 0, .int .i64 0, .int .i64 1, .int .i64 0])), (2, V (.agg #[.int .i64 0, .int .i64 1, .int .i64 0, .int .i64 0])), (3, V (.agg #[.int .i64 1, .int .i64 0, .int .i64 1, .int .i64 0])), (4, V (.agg #[.int .i64 1, .int .i64 1, .int .i64 1, .int .i64 1]))] fun a hS => ?_
 refine op1 (lit (E := 87) (col := 0) (T := aw) (vals := [.agg #[.int .i64 0, .int .i64 0, .int .i64 1, .int .i64 0], .agg #[.int .i64 0, .int .i64 1, .int .i64 0, .int .i64 0], .agg #[.int .i64 1, .int .i64 0, .int .i64 1, .int .i64 0], .agg #[.int .i64 1, .int .i64 1, .int .i64 1, .int .i64 1]]) (ys := [(⟨0, 0, 1, 0⟩ : aS), (⟨0, 1, 0, 0⟩ : aS), (⟨1, 0, 1, 0⟩ : aS), (⟨1, 1, 1, 1⟩ : aS)]) T hS kr kr kr kr (by exact ⟨rfl, rfl, rfl, rfl, trivial⟩) rfl kr kr kr kr ?_)
 intro b101 a w102 X103 hE h104 hN hS
 clear hN
 replace hO := hO.m2 hE
 replace h104 := h104.rs0
 refine eM T hS ⟨[(0, Pt 1 0)], [(1, (42, [I 2, I 2, I 0, Sl (some ⟨b101, 0, none⟩) [(⟨0, 0, 1, 0⟩ : aS), (⟨0, 1, 0, 0⟩ : aS), (⟨1, 0, 1, 0⟩ : aS), (⟨1, 1, 1, 1⟩ : aS)] 4]))]⟩ fun Z a w105 X106 hS hE hr => ?_
 replace hO := hO.m2 hE
 replace h104 := h104.m1 hE
 clear hE hr
 refine aU ?_
 exact fin T hS hO (fun c => c) rfl (r := [.agg #[.int .i64 2, .int .i64 2, .int .i64 0, .slice (some ⟨b101, 0, none⟩) [(⟨0, 0, 1, 0⟩ : aS), (⟨0, 1, 0, 0⟩ : aS), (⟨1, 0, 1, 0⟩ : aS), (⟨1, 1, 1, 1⟩ : aS)].length 4]]) kr (fun X' hM hC => ⟨(⟨2, 2, 0, [(⟨0, 0, 1, 0⟩ : aS), (⟨0, 1, 0, 0⟩ : aS), (⟨1, 0, 1, 0⟩ : aS), (⟨1, 1, 1, 1⟩ : aS)]⟩ : ai), hm, (some ⟨b101, 0, none⟩), 4, rfl, h104.m0 hM⟩)
theorem C22 (v : ∀ (_ : Unit), VC22 (fun r => r = cn)) : S22 := by
 intro w X     
 refine (W22 w X     _ (v ())).mono ?_
 rintro _ _ _ _ ⟨r, rfl, h⟩
 exact h
theorem W19 (k22 : S22) (w0) (X0) (object : Int) (col1) (Q : ak -> Prop) (hm : VC19 object Q) :
  Ret Try.prog 19 #[.int .i64 object] aF w0 X0 (fun w X' v => ∃ r, Q r /\ ∃ ra1 rc1 ra2 rc2, v = .agg #[.slice ra1 r.ae.length rc1, .slice ra2 r.aj.length rc2] /\ RS aE w X' ra1 r.ae rc1 /\ OS aK 64 w X' col1 ra2 r.aj rc2) := by
 unfold VC19 at hm
 refine enter Try.func19 rfl (vals := [.int .i64 object]) kr ?_
 intro Z a hS hO hM
 refine rM T hS ⟨[(0, I object), (2, Pt 3 0)], [(3, (25, [V (.slice none 0 0), V (.slice none 0 0)]))]⟩ fun Z a w125 X126 hS hE hr => ?_
 replace hO := hO.m2 hE
 clear hE hr
 refine bb ?_
 refine op1 (call hS kr kr hb22 kr (fun _ _ => rfl) (k22 _ _) ?_)
 intro v101 a w102 X103 hE hp hS
 replace hO := hO.m2 hE
 obtain ⟨a105, c106, hp, h107⟩ := hp
 obtain ⟨r104, hr⟩ : ∃ r, cn = r := ⟨_, rfl⟩
 replace hm := hm r104 hr
 rw [hr] at hp h107
 clear hr
 subst hp
 replace hm := hm (h107.sm kr)
 refine op1 (call hS kr kr hb22 kr (fun _ _ => rfl) (k22 _ _) ?_)
 intro v108 a w109 X110 hE hp hS
 replace hO := hO.m2 hE
 replace h107 := h107.m1 hE
 obtain ⟨a112, c113, hp, h114⟩ := hp
 obtain ⟨r111, hr⟩ : ∃ r, cn = r := ⟨_, rfl⟩
 replace hm := hm r111 hr
 rw [hr] at hp h114
 clear hr
 subst hp
 replace hm := hm (h114.sm kr)
 refine op1 (lit (E := 42) (col := 0) (T := aE) (vals := [.agg #[.int .i64 r104.ao, .int .i64 r104.av, .int .i64 r104.aC, .slice a105 r104.Rows.length c106], .agg #[.int .i64 r111.ao, .int .i64 r111.av, .int .i64 r111.aC, .slice a112 r111.Rows.length c113]]) (ys := [r104, r111]) T hS kr kr kr kr (by exact ⟨⟨a105, c106, rfl, h107⟩, ⟨a112, c113, rfl, h114⟩, trivial⟩) rfl kr kr kr kr ?_)
 intro b115 a w116 X117 hE h118 hN hS
 clear hN
 replace hO := hO.m2 hE
 replace h107 := h107.m1 hE
 replace h114 := h114.m1 hE
 replace h118 := h118.rs0
 refine oPb T hS 10 [(2, Pt 3 0), (5, Sl (some ⟨b115, 0, none⟩) [r104, r111] 2), (7, V (.agg #[.int .i64 0, .int .i64 1, .int .i64 1, .int .i64 0])), (10, V (.agg #[.int .i64 object, .int .i64 1, .int .i64 2, .int .i64 1])), (12, V (.agg #[.int .i64 0, .int .i64 2, .int .i64 1, .int .i64 0])), (15, V (.agg #[.int .i64 object, .int .i64 2, .int .i64 2, .int .i64 1]))] fun a hS => ?_
 refine op1 (lit (E := 64) (col := 1017) (T := aK) (vals := [.agg #[.int .i64 0, .int .i64 1, .int .i64 1, .int .i64 0], .agg #[.int .i64 object, .int .i64 1, .int .i64 2, .int .i64 1], .agg #[.int .i64 0, .int .i64 2, .int .i64 1, .int .i64 0], .agg #[.int .i64 object, .int .i64 2, .int .i64 2, .int .i64 1]]) (ys := [(⟨0, (⟨1, 1, 0⟩ : al)⟩ : aR), (⟨object, (⟨1, 2, 1⟩ : al)⟩ : aR), (⟨0, (⟨2, 1, 0⟩ : al)⟩ : aR), (⟨object, (⟨2, 2, 1⟩ : al)⟩ : aR)]) T hS kr kr kr kr (by exact ⟨rfl, rfl, rfl, rfl, trivial⟩) rfl kr kr kr kr ?_)
 intro b119 a w120 X121 hE h122 hN hS
 clear hN
 replace hO := hO.m2 hE
 replace h118 := h118.m1 hE
 refine eM T hS ⟨[(2, Pt 3 0)], [(3, (25, [Sl (some ⟨b115, 0, none⟩) [r104, r111] 2, Sl (some ⟨b119, 0, none⟩) [(⟨0, (⟨1, 1, 0⟩ : al)⟩ : aR), (⟨object, (⟨1, 2, 1⟩ : al)⟩ : aR), (⟨0, (⟨2, 1, 0⟩ : al)⟩ : aR), (⟨object, (⟨2, 2, 1⟩ : al)⟩ : aR)] 4]))]⟩ fun Z a w123 X124 hS hE hr => ?_
 replace hO := hO.m2 hE
 replace h118 := h118.m1 hE
 replace h122 := h122.m2 hE
 clear hE hr
 refine aU ?_
 exact fin T hS hO (zL3g0 col1) rfl (r := [.agg #[.slice (some ⟨b115, 0, none⟩) [r104, r111].length 2, .slice (some ⟨b119, 0, none⟩) [(⟨0, (⟨1, 1, 0⟩ : al)⟩ : aR), (⟨object, (⟨1, 2, 1⟩ : al)⟩ : aR), (⟨0, (⟨2, 1, 0⟩ : al)⟩ : aR), (⟨object, (⟨2, 2, 1⟩ : al)⟩ : aR)].length 4]]) kr (fun X' hM hC => ⟨(⟨[r104, r111], [(⟨0, (⟨1, 1, 0⟩ : al)⟩ : aR), (⟨object, (⟨1, 2, 1⟩ : al)⟩ : aR), (⟨0, (⟨2, 1, 0⟩ : al)⟩ : aR), (⟨object, (⟨2, 2, 1⟩ : al)⟩ : aR)]⟩ : ak), hm, (some ⟨b115, 0, none⟩), 2, (some ⟨b119, 0, none⟩), 4, rfl, h118.m0 hM, (OS.out (f := (zL3g0 col1)) h122 hM hC kr)⟩)
theorem C19 (k22 : S22) (v : ∀ (object : Int), VC19 object (fun r => r = bN object)) : S19 := by
 intro w X object  col1  
 refine (W19 k22 w X object  col1  _ (v object)).mono ?_
 rintro _ _ _ _ ⟨r, rfl, h⟩
 exact h
theorem W8 (w0) (X0) (h_ : ak) (a1) (c1) (a2) (c2) (Q : (List aD) -> Prop) (hm : VC8 h_ Q) (h1 : RS aE w0 X0 a1 h_.ae c1) (h2 : RS aK w0 X0 a2 h_.aj c2) :
  Ret Try.prog 8 #[.agg #[.slice a1 h_.ae.length c1, .slice a2 h_.aj.length c2]] aF w0 X0 (fun w X' v => ∃ r, Q r /\ ∃ ra1 rc1, v = .slice ra1 r.length rc1 /\ RS bj w X' ra1 r rc1) := by
 unfold VC8 at hm
 replace hm := hm (h1.sm kr)
 replace hm := hm (h2.sm kr)
 refine enter Try.func8 rfl (vals := [.agg #[.slice a1 h_.ae.length c1, .slice a2 h_.aj.length c2]]) kr ?_
 intro Z a hS hO hM
 replace h1 := h1.m0 hM
 replace h2 := h2.m0 hM
 refine rM T hS ⟨[(1, Pt 2 0)], [(2, (25, [Sl a1 h_.ae c1, Sl a2 h_.aj c2]))]⟩ fun Z a w139 X140 hS hE hr => ?_
 replace hO := hO.m2 hE
 replace h1 := h1.m1 hE
 replace h2 := h2.m1 hE
 clear hE hr
 refine rPb T hS [(1, Pt 2 0), (3, V (.slice none 0 0))] fun a hS => ?_
 refine bU (fun a w => ∃ (Z : Nat -> Nat) (X : Nat -> Nat) (y101 : List aD) (a102 : Option Addr) (c103 : Nat), VC8_J1 Q y101 /\ St Try.f8.ntmps ⟨[(3, Sl a102 y101 c103)], []⟩ Z a w X /\ Old w0 X0 w X /\ OS bj 75 w X 1003 a102 y101 c103) ?_ ?_
 ·refine rPb T hS [(1, Pt 2 0), (3, V (.slice none 0 0)), (4, I 0)] fun a hS => ?_
  refine aO ?_
  obtain ⟨I1, μ1, hm0, hm⟩ := hm
  refine b8 (σ := (List aD) × Int) (fun s a w => ∃ Z X a108 c109, I1 s.1 s.2 /\ St Try.f8.ntmps ⟨[(1, Pt 2 0), (3, Sl a108 s.1 c109), (4, I s.2)], [(2, (25, [Sl a1 h_.ae c1, Sl a2 h_.aj c2]))]⟩ Z a w X /\ Old w0 X0 w X /\ OS bj 75 w X 1003 a108 s.1 c109 /\ RS aE w X a1 h_.ae c1 /\ RS aK w X a2 h_.aj c2) (fun s => μ1 s.1 s.2) (⟨[], 0⟩) ?_ ?_
  ·exact ⟨Z, _, none, 0, hm0, hS.sl _, hO, (OS.nil _ _ _ _ _), h1, h2⟩
  rintro ⟨y107, y111⟩ a w136 ⟨Z, X135, a108, c109, hI, hS, hO, h110, h112, h113⟩
  replace hm := hm y107 y111 hI
  clear hI hm0
  refine ba ?_
  refine rPb T hS [(1, Pt 2 0), (3, Sl a108 y107 c109), (4, I y111), (9, B (decide (y111 < (lN h_.aj))))] fun a hS => ?_
  refine aG hS (b := decide (y111 < (lN h_.aj))) kr (fun hb => ?_) fun hb => ?_
  ·replace hm := hm.1 hb
   refine aJ (ba ?_)
   refine aO ?_
   refine fj [2] mixed hS ?_
   intro w114 X115 hS hE hD hH
   replace hO := hO.m2 hE
   replace h110 := h110.m2 hE
   replace h112 := h112.m1 hE
   replace h113 := h113.m1 hE
   refine tkb T [0, 1, 3, 7, 9, 2, 8] [2] hS hH #[true, true, true, true, false, false, false, true, true, true, false, false, false, false, false, false, false] 10 [(1, Pt 2 0), (3, Sl a108 y107 c109), (4, I y111), (12, Sl a108 y107 c109), (14, Sl a2 h_.aj c2), (15, I y111), (20, Sl a2 h_.aj c2), (21, I y111)] fun a hS => ?_
   obtain ⟨hq, hm⟩ := hm
   refine cD (e := 64) (k := .i64) T 4 hS kr kr kr (by rfl) kr hH kr kr h113 kr kr hq.1 hq.2 ?_
   intro A116 a h117 hS
   have h117b := h117.here
   refine db (off := 0) (fsz := 1) (ft := 3) (TF := tI) (y := (gi h_.aj y111).ar) 5 T hS kr kr kr (by rfl) kr hH kr h117 kr kr kr (fun cs h => fU h) ?_
   intro A118 a h119 hbl hS
   have h119b := h117b
   rw [← hbl] at h119b
   clear hbl
   refine dB T 6 hS kr kr kr (by rfl) kr hH kr h119 h119b rfl kr ?_
   intro v120 a hv hS
   cases hv
   obtain ⟨hq, hm⟩ := hm
   refine cD (e := 64) (k := .i64) T 10 hS kr kr kr (by rfl) kr hH kr kr h113 kr kr hq.1 hq.2 ?_
   intro A121 a h122 hS
   have h122b := h122.here
   refine db (off := 1) (fsz := 3) (ft := 62) (TF := az) (y := (gi h_.aj y111).aH) 11 T hS kr kr kr (by rfl) kr hH kr h122 kr kr kr (fun cs h => ky h) ?_
   intro A123 a h124 hbl hS
   have h124b := h122b
   rw [← hbl] at h124b
   clear hbl
   refine fB T 12 hS kr kr kr (by rfl) kr hH kr h124 h124b kr kr ?_
   intro v125 a hv hS
   subst hv
   refine tkb T [13] [2] hS hH #[true, true, true, true, true, true, true, true, true, true, true, true, true, true, false, false, false] 3 [(1, Pt 2 0), (3, Sl a108 y107 c109), (4, I y111), (12, Sl a108 y107 c109), (25, V (.agg #[.int .i64 ((gi h_.aj y111).ar), .int .i64 (((gi h_.aj y111).aH).aY), .int .i64 (((gi h_.aj y111).aH).ab), .int .i64 (((gi h_.aj y111).aH).N)]))] fun a hS => ?_
   refine only 14 kr (by rfl) (lit (E := 75) (col := 0) (T := bj) (vals := [.agg #[.int .i64 ((gi h_.aj y111).ar), .int .i64 (((gi h_.aj y111).aH).aY), .int .i64 (((gi h_.aj y111).aH).ab), .int .i64 (((gi h_.aj y111).aH).N)]]) (ys := [(⟨(gi h_.aj y111).ar, ((gi h_.aj y111).aH)⟩ : aD)]) T hS kr kr kr kr (by exact ⟨rfl, trivial⟩) rfl kr kr kr kr ?_)
   intro b126 a w127 X128 hE h129 hN hS
   clear hN
   replace hO := hO.m2 hE
   replace hD := hD.ev hE rfl
   replace h110 := h110.m2 hE
   replace h112 := h112.m1 hE
   replace h113 := h113.m1 hE
   replace h117 := h117.m1 hE
   replace h119 := h119.m1 hE
   replace h122 := h122.m1 hE
   replace h124 := h124.m1 hE
   replace h129 := h129.rs0
   refine bX (bl.of hS (bks := [2]) kr hD) ?_
   intro hH
   obtain ⟨hq, hm⟩ := hm
   obtain ⟨news, hN⟩ := h129.src
   refine only 15 kr (by rfl) (append (E := 75) (T := bj) (col := 1003) (xs := y107) T hS kr kr kr kr h110 hN kr kr kr kr hq ?_)
   intro a133 c134 a w130 X131 hE h132 hS
   clear hq hN
   clear h110
   replace hO := hO.m2 hE
   replace hD := hD.ev hE rfl
   replace h112 := h112.m1 hE
   replace h113 := h113.m1 hE
   replace h117 := h117.m1 hE
   replace h119 := h119.m1 hE
   replace h122 := h122.m1 hE
   replace h124 := h124.m1 hE
   replace h129 := h129.m1 hE
   replace hS := hS.slb [(1, Pt 2 0), (4, I y111), (25, V (.agg #[.int .i64 ((gi h_.aj y111).ar), .int .i64 (((gi h_.aj y111).aH).aY), .int .i64 (((gi h_.aj y111).aH).ab), .int .i64 (((gi h_.aj y111).aH).N)])), (26, Sl (some ⟨b126, 0, none⟩) [(⟨(gi h_.aj y111).ar, ((gi h_.aj y111).aH)⟩ : aD)] 1), (27, Sl a133 (y107 ++ [(⟨(gi h_.aj y111).ar, ((gi h_.aj y111).aH)⟩ : aD)]) c134)]
   refine bX (bl.of hS (bks := [2]) kr hD) ?_
   intro hH
   refine tkb T [16] [2] hS hH (tts 17) 0 [(1, Pt 2 0), (3, Sl a133 (y107 ++ [(⟨(gi h_.aj y111).ar, ((gi h_.aj y111).aH)⟩ : aD)]) c134), (4, I y111)] fun a hS => ?_
   refine aM kr ?_
   replace hS := hS.slb [(1, Pt 2 0), (3, Sl a133 (y107 ++ [(⟨(gi h_.aj y111).ar, ((gi h_.aj y111).aH)⟩ : aD)]) c134), (4, I y111)]
   refine region (ePb T hS [(1, Pt 2 0), (3, Sl a133 (y107 ++ [(⟨(gi h_.aj y111).ar, ((gi h_.aj y111).aH)⟩ : aD)]) c134), (4, I (wR (y111 + 1)))] fun a hS => ?_)
   exact ⟨⟨y107 ++ [(⟨(gi h_.aj y111).ar, ((gi h_.aj y111).aH)⟩ : aD)], wR (y111 + 1)⟩, ⟨Z, _, a133, c134, hm.1, hS.sl _, hO, h132, h112, h113⟩, hm.2⟩
  replace hm := hm.2 hb
  refine b0 (by rfl) ?_
  exact ⟨Z, _, y107, a108, c109, hm, hS.sl _, hO, h110⟩
 rintro a w138 ⟨Z, X137, y101, a102, c103, hm, hS, hO, h104⟩
 unfold VC8_J1 at hm
 refine rPb T hS [(2, Sl a102 y101 c103)] fun a hS => ?_
 refine aU ?_
 obtain ⟨X105, hE, hF⟩ := h104.freeze (by decide)
 replace hS := hS.ev hE (bW kr)
 replace hO := hO.m2 hE
 have h106 := hF; clear hE hF
 exact fin T hS hO (fun c => c) rfl (r := [.slice a102 y101.length c103]) kr (fun X' hM hC => ⟨y101, hm, a102, c103, rfl, h106.m0 hM⟩)
theorem C8 (v : ∀ (h_ : ak), fZ h_ -> VC8 h_ (fun r => r = cN h_)) : S8 := by
 intro w X h_ a1 c1 a2 c2   hp h1 h2
 refine (W8 w X h_ a1 c1 a2 c2   _ (v h_ hp) h1 h2).mono ?_
 rintro _ _ _ _ ⟨r, rfl, h⟩
 exact h
theorem W4 (k17 : S17) (w0) (X0) (h_ : ak) (a1) (c1) (a2) (c2) (Q : Bool -> Prop) (hm : VC4 h_ Q) (h1 : RS aE w0 X0 a1 h_.ae c1) (h2 : RS aK w0 X0 a2 h_.aj c2) :
  Ret Try.prog 4 #[.agg #[.slice a1 h_.ae.length c1, .slice a2 h_.aj.length c2]] aF w0 X0 (fun w X' v => ∃ r, Q r /\ v = .bool r) := by
 unfold VC4 at hm
 replace hm := hm (h1.sm kr)
 replace hm := hm (h2.sm kr)
 refine enter Try.func4 rfl (vals := [.agg #[.slice a1 h_.ae.length c1, .slice a2 h_.aj.length c2]]) kr ?_
 intro Z a hS hO hM
 replace h1 := h1.m0 hM
 replace h2 := h2.m0 hM
 refine rM T hS ⟨[(1, Pt 2 0)], [(2, (25, [Sl a1 h_.ae c1, Sl a2 h_.aj c2]))]⟩ fun Z a w118 X119 hS hE hr => ?_
 replace hO := hO.m2 hE
 replace h1 := h1.m1 hE
 replace h2 := h2.m1 hE
 clear hE hr
 refine ba ?_
 refine rPb T hS [(1, Pt 2 0), (13, B ((decide ((lN h_.ae) > 10)) || (decide ((lN h_.aj) > 20))))] (sp := [8]) fun a hS => ?_
 refine aG hS (b := ((decide ((lN h_.ae) > 10)) || (decide ((lN h_.aj) > 20)))) kr (fun hb => ?_) fun hb => ?_
 ·replace hm := hm.1 hb
  refine rP T hS ⟨[(2, B false)], []⟩ fun a hS => ?_
  refine aU ?_
  exact fin T hS hO (fun c => c) rfl (r := [.bool false]) kr (fun X' hM hC => ⟨false, hm, rfl⟩)
 replace hm := hm.2 hb
 refine aJ ?_
 refine bU (fun a w => ∃ Z X, VC4_J1 Q /\ St Try.f4.ntmps ⟨[], []⟩ Z a w X /\ Old w0 X0 w X) ?_ ?_
 ·refine rPb T hS [(1, Pt 2 0), (3, I 0)] fun a hS => ?_
  refine aO ?_
  obtain ⟨I1, μ1, hm0, hm⟩ := hm
  refine b8 (σ := Int) (fun s a w => ∃ Z X, I1 s /\ St Try.f4.ntmps ⟨[(1, Pt 2 0), (3, I s)], [(2, (25, [Sl a1 h_.ae c1, Sl a2 h_.aj c2]))]⟩ Z a w X /\ Old w0 X0 w X /\ RS aE w X a1 h_.ae c1 /\ RS aK w X a2 h_.aj c2) (fun s => μ1 s) (0) ?_ ?_
  ·exact ⟨Z, _, hm0, hS.sl _, hO, h1, h2⟩
  rintro y101 a w115 ⟨Z, X114, hI, hS, hO, h102, h103⟩
  replace hm := hm y101 hI
  clear hI hm0
  refine ba ?_
  refine rPb T hS [(1, Pt 2 0), (3, I y101), (18, B (decide (y101 < (lN h_.ae))))] fun a hS => ?_
  refine aG hS (b := decide (y101 < (lN h_.ae))) kr (fun hb => ?_) fun hb => ?_
  ·replace hm := hm.1 hb
   refine aJ (ba ?_)
   refine aO ?_
   refine bb ?_
   refine oPb T hS 3 [(1, Pt 2 0), (3, I y101), (22, Sl a1 h_.ae c1), (23, I y101)] fun a hS => ?_
   obtain ⟨hq, hm⟩ := hm
   refine op1 (index (e := 42) (k := .i64) T hS kr kr kr kr h102 kr kr hq.1 hq.2 ?_)
   intro A104 a h105 hS
   refine op1 (di T hS kr kr kr h105 kr kr ?_)
   intro v106 a hv hS
   obtain ⟨a107, c108, hv, h109⟩ := hv
   subst hv
   replace hm := hm (h109.sm kr)
   refine op1 (call hS kr kr hb17 kr (fun _ _ => rfl) (k17 _ _ (gi h_.ae y101) a107 c108 h109) ?_)
   intro v110 a w111 X112 hE hp hS
   replace hO := hO.m2 hE
   replace h102 := h102.m1 hE
   replace h103 := h103.m1 hE
   replace h105 := h105.m1 hE
   replace h109 := h109.m1 hE
   obtain ⟨r113, hr⟩ : ∃ r, eG (gi h_.ae y101) = r := ⟨_, rfl⟩
   replace hm := hm r113 hr
   rw [hr] at hp
   clear hr
   subst hp
   refine ePb T hS [(1, Pt 2 0), (3, I y101), (27, B (!r113))] fun a hS => ?_
   refine aG hS (b := (!r113)) kr (fun hb => ?_) fun hb => ?_
   ·replace hm := hm.1 hb
    refine rP T hS ⟨[(2, B false)], []⟩ fun a hS => ?_
    refine aU ?_
    exact fin T hS hO (fun c => c) rfl (r := [.bool false]) kr (fun X' hM hC => ⟨false, hm, rfl⟩)
   replace hm := hm.2 hb
   refine aJ ?_
   refine region (ePb T hS [(1, Pt 2 0), (3, I (wR (y101 + 1)))] fun a hS => ?_)
   exact ⟨wR (y101 + 1), ⟨Z, _, hm.1, hS.sl _, hO, h102, h103⟩, hm.2⟩
  replace hm := hm.2 hb
  refine b0 (by rfl) ?_
  exact ⟨Z, _, hm, hS.sl _, hO⟩
 rintro a w117 ⟨Z, X116, hm, hS, hO⟩
 unfold VC4_J1 at hm
 refine rPb T hS [(2, B true)] fun a hS => ?_
 refine aU ?_
 exact fin T hS hO (fun c => c) rfl (r := [.bool true]) kr (fun X' hM hC => ⟨true, hm, rfl⟩)
theorem C4 (k17 : S17) (v : ∀ (h_ : ak), VC4 h_ (fun r => r = eF h_)) : S4 := by
 intro w X h_ a1 c1 a2 c2   h1 h2
 refine (W4 k17 w X h_ a1 c1 a2 c2   _ (v h_) h1 h2).mono ?_
 rintro _ _ _ _ ⟨r, rfl, h⟩
 exact h
end Go.Proofs.Yteahldlmkheleaa
