/- Walks: each function returns what its condition asks. Condition: the contracts of its callees, handed in. -/
import Derived.Test.YtojdelnnjhbgbaaZWalksS
set_option linter.all false
namespace Go.Proofs.Ytojdelnnjhbgbaa
open Go Go.Sv
set_option maxHeartbeats 1000000
theorem W45 (w0) (X0) (n_ : Int) (Q : (List (List Int)) -> Prop) (hm : VC45 n_ Q) :
  Ret Try.prog 45 #[.int .i64 n_] xnone w0 X0 (fun w X' v => ∃ r, Q r /\ ∃ ra1 rc1, v = .slice ra1 r.length rc1 /\ RS (tSlice tI) w X' ra1 r rc1) := by
 unfold VC45 at hm
 refine enter Try.func45 rfl (vals := [.int .i64 n_]) kr ?_
 intro Z a hS hO hM
 refine rPb T hS [(0, I n_)] fun a hS => ?_
 refine regO ?_
 refine op1 (lit (E := 48) (col := 1003) (T := (tSlice tI)) (vals := [.slice none 0 0]) (ys := ([[]] : List (List Int))) T hS kr kr kr kr (by exact ⟨⟨none, 0, rfl, RS.empty _ _ _⟩, trivial⟩) rfl kr kr kr kr ?_)
 intro b101 a w102 X103 hE h104 hN hS
 clear hN
 replace hO := hO.m2 hE
 refine ePb T hS [(0, I n_), (3, Sl (some ⟨b101, 0, none⟩) ([[]] : List (List Int)) 1)] fun a hS => ?_
 refine regO ?_
 refine op1 (lit (E := 48) (col := 0) (T := (tSlice tI)) (vals := [.slice none 0 0]) (ys := ([[]] : List (List Int))) T hS kr kr kr kr (by exact ⟨⟨none, 0, rfl, RS.empty _ _ _⟩, trivial⟩) rfl kr kr kr kr ?_)
 intro b105 a w106 X107 hE h108 hN hS
 clear hN
 replace hO := hO.m2 hE
 replace h104 := h104.m2 hE
 replace h108 := h108.rs0
 refine ePb T hS [(0, I n_), (3, Sl (some ⟨b101, 0, none⟩) ([[]] : List (List Int)) 1), (4, Sl (some ⟨b105, 0, none⟩) ([[]] : List (List Int)) 1)] fun a hS => ?_
 refine wcut (fun a w => ∃ (Z : Nat -> Nat) (X : Nat -> Nat) (y109 : List (List Int)) (a110 : Option Addr) (c111 : Nat), VC45_J1 Q y109 /\ St Try.f45.ntmps ⟨[(3, Sl a110 y109 c111)], []⟩ Z a w X /\ Old w0 X0 w X /\ OS (tSlice tI) 48 w X 1003 a110 y109 c111) ?_ ?_
 ·refine wblock ?_
  obtain ⟨I1, μ1, hm0, hm⟩ := hm
  refine wloop (σ := (List (List Int)) × (List (List Int))) (fun s a w => ∃ Z X a116 c117 a120 c121, I1 s.1 s.2 /\ St Try.f45.ntmps ⟨[(0, I n_), (3, Sl a116 s.1 c117), (4, Sl a120 s.2 c121)], []⟩ Z a w X /\ Old w0 X0 w X /\ OS (tSlice tI) 48 w X 1003 a116 s.1 c117 /\ RS (tSlice tI) w X a120 s.2 c121) (fun s => μ1 s.1 s.2) (⟨([[]] : List (List Int)), ([[]] : List (List Int))⟩) ?_ ?_
  ·exact ⟨Z, _, (some ⟨b101, 0, none⟩), 1, (some ⟨b105, 0, none⟩), 1, hm0, hS.sl _, hO, h104, h108⟩
  rintro ⟨y115, y119⟩ a w274 ⟨Z, X273, a116, c117, a120, c121, hI, hS, hO, h118, h122⟩
  replace hm := hm y115 y119 hI
  clear hI hm0
  refine wseq ?_
  refine rPb T hS [(0, I n_), (3, Sl a116 y115 c117), (4, Sl a120 y119 c121), (14, B (decide ((lN y119) > 0)))] fun a hS => ?_
  refine wcond hS (b := decide ((lN y119) > 0)) kr (fun hb => ?_) fun hb => ?_
  ·replace hm := hm.1 hb
   refine wskip ?_
   refine wblock ?_
   refine rPb T hS [(0, I n_), (3, Sl a116 y115 c117), (4, Sl a120 y119 c121), (5, V (.slice none 0 0))] fun a hS => ?_
   refine wcut (fun a w => ∃ (Z : Nat -> Nat) (X : Nat -> Nat) (y123 : List (List Int)) (y127 : List (List Int)) (a124 : Option Addr) (c125 : Nat) (a128 : Option Addr) (c129 : Nat), VC45_J2 I1 μ1 y115 y119 y123 y127 /\ St Try.f45.ntmps ⟨[(0, I n_), (3, Sl a124 y123 c125), (5, Sl a128 y127 c129)], []⟩ Z a w X /\ Old w0 X0 w X /\ OS (tSlice tI) 48 w X 1003 a124 y123 c125 /\ OS (tSlice tI) 48 w X 1006 a128 y127 c129) ?_ ?_
   ·refine rPb T hS [(0, I n_), (3, Sl a116 y115 c117), (4, Sl a120 y119 c121), (5, V (.slice none 0 0)), (6, I 0)] fun a hS => ?_
    refine wblock ?_
    obtain ⟨I2, μ2, hm0, hm⟩ := hm
    refine wloop (σ := (List (List Int)) × (List (List Int)) × Int) (fun s a w => ∃ Z X a139 c140 a144 c145, I2 s.1 s.2.1 s.2.2 /\ St Try.f45.ntmps ⟨[(0, I n_), (3, Sl a139 s.1 c140), (4, Sl a120 y119 c121), (5, Sl a144 s.2.1 c145), (6, I s.2.2)], []⟩ Z a w X /\ Old w0 X0 w X /\ OS (tSlice tI) 48 w X 1003 a139 s.1 c140 /\ RS (tSlice tI) w X a120 y119 c121 /\ OS (tSlice tI) 48 w X 1006 a144 s.2.1 c145) (fun s => μ2 s.1 s.2.1 s.2.2) (⟨y115, [], 0⟩) ?_ ?_
    ·exact ⟨Z, _, a116, c117, none, 0, hm0, hS.sl _, hO, h118, h122, (OS.nil _ _ _ _ _)⟩
    rintro ⟨y138, y143, y147⟩ a w270 ⟨Z, X269, a139, c140, a144, c145, hI, hS, hO, h141, h142, h146⟩
    replace hm := hm y138 y143 y147 hI
    clear hI hm0
    refine wseq ?_
    refine rPb T hS [(0, I n_), (3, Sl a139 y138 c140), (4, Sl a120 y119 c121), (5, Sl a144 y143 c145), (6, I y147), (18, B (decide (y147 < (lN y119))))] fun a hS => ?_
    refine wcond hS (b := decide (y147 < (lN y119))) kr (fun hb => ?_) fun hb => ?_
    ·replace hm := hm.1 hb
     refine wskip ?_
     refine wcut (fun a w => ∃ (Z : Nat -> Nat) (X : Nat -> Nat) (y148 : List (List Int)) (y153 : List (List Int)) (a149 : Option Addr) (c150 : Nat) (a154 : Option Addr) (c155 : Nat), VC45_J3 I2 μ2 y138 y143 y147 y148 y153 /\ St Try.f45.ntmps ⟨[(0, I n_), (3, Sl a149 y148 c150), (4, Sl a120 y119 c121), (5, Sl a154 y153 c155), (6, I y147)], []⟩ Z a w X /\ Old w0 X0 w X /\ OS (tSlice tI) 48 w X 1003 a149 y148 c150 /\ RS (tSlice tI) w X a120 y119 c121 /\ OS (tSlice tI) 48 w X 1006 a154 y153 c155) ?_ ?_
     ·refine wblock ?_
      refine rPb T hS [(0, I n_), (3, Sl a139 y138 c140), (4, Sl a120 y119 c121), (5, Sl a144 y143 c145), (6, I y147), (7, I 0)] fun a hS => ?_
      refine wblock ?_
      obtain ⟨I3, μ3, hm0, hm⟩ := hm
      refine wloop (σ := (List (List Int)) × (List (List Int)) × Int) (fun s a w => ∃ Z X a158 c159 a163 c164, I3 s.1 s.2.1 s.2.2 /\ St Try.f45.ntmps ⟨[(0, I n_), (3, Sl a158 s.1 c159), (4, Sl a120 y119 c121), (5, Sl a163 s.2.1 c164), (6, I y147), (7, I s.2.2)], []⟩ Z a w X /\ Old w0 X0 w X /\ OS (tSlice tI) 48 w X 1003 a158 s.1 c159 /\ RS (tSlice tI) w X a120 y119 c121 /\ OS (tSlice tI) 48 w X 1006 a163 s.2.1 c164) (fun s => μ3 s.1 s.2.1 s.2.2) (⟨y138, y143, 0⟩) ?_ ?_
      ·exact ⟨Z, _, a139, c140, a144, c145, hm0, hS.sl _, hO, h141, h142, h146⟩
      rintro ⟨y157, y162, y166⟩ a w266 ⟨Z, X265, a158, c159, a163, c164, hI, hS, hO, h160, h161, h165⟩
      replace hm := hm y157 y162 y166 hI
      clear hI hm0
      refine wseq ?_
      refine rPb T hS [(0, I n_), (3, Sl a158 y157 c159), (4, Sl a120 y119 c121), (5, Sl a163 y162 c164), (6, I y147), (7, I y166), (23, B (decide (y166 < n_)))] fun a hS => ?_
      refine wcond hS (b := decide (y166 < n_)) kr (fun hb => ?_) fun hb => ?_
      ·replace hm := hm.1 hb
       refine wskip ?_
       refine wcut (fun a w => ∃ (Z : Nat -> Nat) (X : Nat -> Nat) (y167 : List (List Int)) (y172 : List (List Int)) (a168 : Option Addr) (c169 : Nat) (a173 : Option Addr) (c174 : Nat), VC45_J4 I3 μ3 y157 y162 y166 y167 y172 /\ St Try.f45.ntmps ⟨[(0, I n_), (3, Sl a168 y167 c169), (4, Sl a120 y119 c121), (5, Sl a173 y172 c174), (6, I y147), (7, I y166)], []⟩ Z a w X /\ Old w0 X0 w X /\ OS (tSlice tI) 48 w X 1003 a168 y167 c169 /\ RS (tSlice tI) w X a120 y119 c121 /\ OS (tSlice tI) 48 w X 1006 a173 y172 c174) ?_ ?_
       ·refine wblock ?_
        refine rPb T hS [(0, I n_), (3, Sl a158 y157 c159), (4, Sl a120 y119 c121), (5, Sl a163 y162 c164), (6, I y147), (7, I y166), (8, B false)] fun a hS => ?_
        refine wcut (fun a w => ∃ (Z : Nat -> Nat) (X : Nat -> Nat) (y176 : List (List Int)) (y181 : List (List Int)) (y185 : Bool) (a177 : Option Addr) (c178 : Nat) (a182 : Option Addr) (c183 : Nat), VC45_J5 y119 y147 I3 μ3 y157 y162 y166 y176 y181 y185 /\ St Try.f45.ntmps ⟨[(0, I n_), (3, Sl a177 y176 c178), (4, Sl a120 y119 c121), (5, Sl a182 y181 c183), (6, I y147), (7, I y166), (8, B y185)], []⟩ Z a w X /\ Old w0 X0 w X /\ OS (tSlice tI) 48 w X 1003 a177 y176 c178 /\ RS (tSlice tI) w X a120 y119 c121 /\ OS (tSlice tI) 48 w X 1006 a182 y181 c183) ?_ ?_
        ·refine rPb T hS [(0, I n_), (3, Sl a158 y157 c159), (4, Sl a120 y119 c121), (5, Sl a163 y162 c164), (6, I y147), (7, I y166), (8, B false), (9, I 0)] fun a hS => ?_
         refine wblock ?_
         obtain ⟨I4, μ4, hm0, hm⟩ := hm
         refine wloop (σ := (List (List Int)) × (List (List Int)) × Bool × Int) (fun s a w => ∃ Z X a222 c223 a227 c228, I4 s.1 s.2.1 s.2.2.1 s.2.2.2 /\ St Try.f45.ntmps ⟨[(0, I n_), (3, Sl a222 s.1 c223), (4, Sl a120 y119 c121), (5, Sl a227 s.2.1 c228), (6, I y147), (7, I y166), (8, B s.2.2.1), (9, I s.2.2.2)], []⟩ Z a w X /\ Old w0 X0 w X /\ OS (tSlice tI) 48 w X 1003 a222 s.1 c223 /\ RS (tSlice tI) w X a120 y119 c121 /\ OS (tSlice tI) 48 w X 1006 a227 s.2.1 c228) (fun s => μ4 s.1 s.2.1 s.2.2.1 s.2.2.2) (⟨y157, y162, false, 0⟩) ?_ ?_
         ·exact ⟨Z, _, a158, c159, a163, c164, hm0, hS.sl _, hO, h160, h161, h165⟩
         rintro ⟨y221, y226, y230, y231⟩ a w260 ⟨Z, X259, a222, c223, a227, c228, hI, hS, hO, h224, h225, h229⟩
         replace hm := hm y221 y226 y230 y231 hI
         clear hI hm0
         refine wseq ?_
         refine regO ?_
         refine oPb T hS 3 [(0, I n_), (3, Sl a222 y221 c223), (4, Sl a120 y119 c121), (5, Sl a227 y226 c228), (6, I y147), (7, I y166), (8, B y230), (9, I y231), (26, I y231), (27, Sl a120 y119 c121), (28, I y147)] fun a hS => ?_
         obtain ⟨hq, hm⟩ := hm
         refine op1 (index (e := 48) (k := .i64) T hS kr kr kr kr h225 kr kr hq.1 hq.2 ?_)
         intro A232 a h233 hS
         refine op1 (load1 T hS kr kr kr h233 rfl kr ?_)
         intro v234 a hv hS
         obtain ⟨a235, c236, hv, h237⟩ := hv
         cases hv
         replace hm := hm (h237.sm kr)
         refine ePb T hS [(0, I n_), (3, Sl a222 y221 c223), (4, Sl a120 y119 c121), (5, Sl a227 y226 c228), (6, I y147), (7, I y166), (8, B y230), (9, I y231), (32, B (decide (y231 < (lN (gi y119 y147)))))] fun a hS => ?_
         refine wcond hS (b := decide (y231 < (lN (gi y119 y147)))) kr (fun hb => ?_) fun hb => ?_
         ·replace hm := hm.1 hb
          refine wskip ?_
          refine wcut (fun a w => ∃ (Z : Nat -> Nat) (X : Nat -> Nat) (y238 : List (List Int)) (y243 : List (List Int)) (y247 : Bool) (a239 : Option Addr) (c240 : Nat) (a244 : Option Addr) (c245 : Nat), VC45_J6 I4 μ4 y221 y226 y230 y231 y238 y243 y247 /\ St Try.f45.ntmps ⟨[(0, I n_), (3, Sl a239 y238 c240), (4, Sl a120 y119 c121), (5, Sl a244 y243 c245), (6, I y147), (7, I y166), (8, B y247), (9, I y231)], []⟩ Z a w X /\ Old w0 X0 w X /\ OS (tSlice tI) 48 w X 1003 a239 y238 c240 /\ RS (tSlice tI) w X a120 y119 c121 /\ OS (tSlice tI) 48 w X 1006 a244 y243 c245) ?_ ?_
          ·refine wblock ?_
           refine region ?_
           refine oPb T hS 2 [(0, I n_), (3, Sl a222 y221 c223), (4, Sl a120 y119 c121), (5, Sl a227 y226 c228), (6, I y147), (7, I y166), (8, B y230), (9, I y231), (36, B y230)] fun a hS => ?_
           rcases bft y230 with hb | hb
           ·replace hS := hS.lit (t := 36) kr hb
            replace hm := hm.1 hb
            refine ePb T hS [(0, I n_), (3, Sl a222 y221 c223), (4, Sl a120 y119 c121), (5, Sl a227 y226 c228), (6, I y147), (7, I y166), (8, B true), (9, I y231)] fun a hS => ?_
            exact ⟨Z, _, y221, y226, true, a222, c223, a227, c228, hm, hS.sl _, hO, h224, h225, h229⟩
           replace hS := hS.lit (t := 36) kr hb
           replace hm := hm.2 hb
           refine oPb T hS 2 [(0, I n_), (3, Sl a222 y221 c223), (4, Sl a120 y119 c121), (5, Sl a227 y226 c228), (6, I y147), (7, I y166), (8, B y230), (9, I y231), (36, B false), (37, Sl a120 y119 c121), (38, I y147)] fun a hS => ?_
           obtain ⟨hq, hm⟩ := hm
           refine op1 (index (e := 48) (k := .i64) T hS kr kr kr kr h225 kr kr hq.1 hq.2 ?_)
           intro A248 a h249 hS
           refine op1 (load1 T hS kr kr kr h249 rfl kr ?_)
           intro v250 a hv hS
           obtain ⟨a251, c252, hv, h253⟩ := hv
           cases hv
           replace hm := hm (h253.sm kr)
           refine oPb T hS 1 [(0, I n_), (3, Sl a222 y221 c223), (4, Sl a120 y119 c121), (5, Sl a227 y226 c228), (6, I y147), (7, I y166), (8, B y230), (9, I y231), (36, B false), (40, Sl a251 (gi y119 y147) c252), (41, I y231)] fun a hS => ?_
           obtain ⟨hq, hm⟩ := hm
           refine op1 (index (e := 3) (k := .i64) T hS kr kr kr kr h253 kr kr hq.1 hq.2 ?_)
           intro A254 a h255 hS
           refine op1 (load1 T hS kr kr kr h255 rfl kr ?_)
           intro v256 a hv hS
           cases hv
           refine ePb T hS [(0, I n_), (3, Sl a222 y221 c223), (4, Sl a120 y119 c121), (5, Sl a227 y226 c228), (6, I y147), (7, I y166), (8, B ((gi (gi y119 y147) y231) == y166)), (9, I y231)] fun a hS => ?_
           exact ⟨Z, _, y221, y226, ((gi (gi y119 y147) y231) == y166), a222, c223, a227, c228, hm, hS.sl _, hO, h224, h225, h229⟩
          rintro a w258 ⟨Z, X257, y238, y243, y247, a239, c240, a244, c245, hm, hS, hO, h241, h242, h246⟩
          unfold VC45_J6 at hm
          refine region (ePb T hS [(0, I n_), (3, Sl a239 y238 c240), (4, Sl a120 y119 c121), (5, Sl a244 y243 c245), (6, I y147), (7, I y166), (8, B y247), (9, I (wR (y231 + 1)))] fun a hS => ?_)
          exact ⟨⟨y238, y243, y247, wR (y231 + 1)⟩, ⟨Z, _, a239, c240, a244, c245, hm.1, hS.sl _, hO, h241, h242, h246⟩, hm.2⟩
         replace hm := hm.2 hb
         refine wexit (by rfl) ?_
         exact ⟨Z, _, y221, y226, y230, a222, c223, a227, c228, hm, hS.sl _, hO, h224, h225, h229⟩
        rintro a w262 ⟨Z, X261, y176, y181, y185, a177, c178, a182, c183, hm, hS, hO, h179, h180, h184⟩
        unfold VC45_J5 at hm
        refine rPb T hS [(0, I n_), (3, Sl a177 y176 c178), (4, Sl a120 y119 c121), (5, Sl a182 y181 c183), (6, I y147), (7, I y166), (48, B (!y185))] fun a hS => ?_
        refine wcond hS (b := (!y185)) kr (fun hb => ?_) fun hb => ?_
        ·replace hm := hm.1 hb
         refine region ?_
         refine oPb T hS 1 [(0, I n_), (3, Sl a177 y176 c178), (4, Sl a120 y119 c121), (5, Sl a182 y181 c183), (6, I y147), (7, I y166), (49, Sl a182 y181 c183)] fun a hS => ?_
         refine op1 (lit (E := 3) (col := 1051) (T := tI) (vals := []) (ys := ([] : List Int)) T hS kr kr kr kr trivial rfl kr kr kr kr ?_)
         intro b186 a w187 X188 hE h189 hN hS
         clear hN
         replace hO := hO.m2 hE
         replace h179 := h179.m2 hE
         replace h180 := h180.m1 hE
         replace h184 := h184.m2 hE
         refine oPb T hS 2 [(0, I n_), (3, Sl a177 y176 c178), (4, Sl a120 y119 c121), (5, Sl a182 y181 c183), (6, I y147), (7, I y166), (49, Sl a182 y181 c183), (50, Sl (some ⟨b186, 0, none⟩) ([] : List Int) 0), (51, Sl a120 y119 c121), (52, I y147)] fun a hS => ?_
         obtain ⟨hq, hm⟩ := hm
         refine op1 (index (e := 48) (k := .i64) T hS kr kr kr kr h180 kr kr hq.1 hq.2 ?_)
         intro A190 a h191 hS
         refine op1 (load1 T hS kr kr kr h191 rfl kr ?_)
         intro v192 a hv hS
         obtain ⟨a193, c194, hv, h195⟩ := hv
         cases hv
         replace hm := hm (h195.sm kr)
         obtain ⟨hq, hm⟩ := hm
         obtain ⟨news, hN⟩ := h195.src
         refine op1 (append (E := 3) (T := tI) (col := 1051) (xs := ([] : List Int)) T hS kr kr kr kr h189 hN kr kr kr kr hq ?_)
         intro a199 c200 a w196 X197 hE h198 hS
         clear hq hN
         clear h189
         replace hO := hO.m2 hE
         replace h179 := h179.m2 hE
         replace h180 := h180.m1 hE
         replace h184 := h184.m2 hE
         replace h191 := h191.m1 hE
         replace h195 := h195.m1 hE
         refine oPb T hS 1 [(0, I n_), (3, Sl a177 y176 c178), (4, Sl a120 y119 c121), (5, Sl a182 y181 c183), (6, I y147), (7, I y166), (49, Sl a182 y181 c183), (55, Sl a199 (([] : List Int) ++ (gi y119 y147)) c200), (56, I y166)] fun a hS => ?_
         refine op1 (lit (E := 3) (col := 0) (T := tI) (vals := [.int .i64 y166]) (ys := [y166]) T hS kr kr kr kr (by exact ⟨rfl, trivial⟩) rfl kr kr kr kr ?_)
         intro b201 a w202 X203 hE h204 hN hS
         clear hN
         replace hO := hO.m2 hE
         replace h179 := h179.m2 hE
         replace h180 := h180.m1 hE
         replace h184 := h184.m2 hE
         replace h198 := h198.m2 hE
         replace h204 := h204.rs0
         obtain ⟨hq, hm⟩ := hm
         obtain ⟨news, hN⟩ := h204.src
         refine op1 (append (E := 3) (T := tI) (col := 1051) (xs := ([] : List Int) ++ (gi y119 y147)) T hS kr kr kr kr h198 hN kr kr kr kr hq ?_)
         intro a208 c209 a w205 X206 hE h207 hS
         clear hq hN
         clear h198
         replace hO := hO.m2 hE
         replace h179 := h179.m2 hE
         replace h180 := h180.m1 hE
         replace h184 := h184.m2 hE
         replace h204 := h204.m1 hE
         obtain ⟨X210, hE, hF⟩ := h207.freeze (by decide)
         replace hS := hS.ev hE (xone_box kr)
         replace hO := hO.m2 hE
         replace h179 := h179.m2 hE
         replace h180 := h180.m1 hE
         replace h184 := h184.m2 hE
         replace h204 := h204.m1 hE
         have h211 := hF; clear hE hF
         refine op1 (lit (E := 48) (col := 0) (T := (tSlice tI)) (vals := [.slice a208 ((([] : List Int) ++ (gi y119 y147)) ++ [y166]).length c209]) (ys := [(([] : List Int) ++ (gi y119 y147)) ++ [y166]]) T hS kr kr kr kr (by exact ⟨⟨a208, c209, rfl, h211⟩, trivial⟩) rfl kr kr kr kr ?_)
         intro b212 a w213 X214 hE h215 hN hS
         clear hN
         replace hO := hO.m2 hE
         replace h179 := h179.m2 hE
         replace h180 := h180.m1 hE
         replace h184 := h184.m2 hE
         replace h204 := h204.m1 hE
         replace h211 := h211.m1 hE
         replace h215 := h215.rs0
         obtain ⟨hq, hm⟩ := hm
         obtain ⟨news, hN⟩ := h215.src
         refine op1 (append (E := 48) (T := (tSlice tI)) (col := 1006) (xs := y181) T hS kr kr kr kr h184 hN kr kr kr kr hq ?_)
         intro a219 c220 a w216 X217 hE h218 hS
         clear hq hN
         clear h184
         replace hO := hO.m2 hE
         replace h179 := h179.m2 hE
         replace h180 := h180.m1 hE
         replace h204 := h204.m1 hE
         replace h211 := h211.m1 hE
         replace h215 := h215.m1 hE
         refine ePb T hS [(0, I n_), (3, Sl a177 y176 c178), (4, Sl a120 y119 c121), (5, Sl a219 (y181 ++ [(([] : List Int) ++ (gi y119 y147)) ++ [y166]]) c220), (6, I y147), (7, I y166)] fun a hS => ?_
         exact ⟨Z, _, y176, y181 ++ [(([] : List Int) ++ (gi y119 y147)) ++ [y166]], a177, c178, a219, c220, hm, hS.sl _, hO, h179, h180, h218⟩
        replace hm := hm.2 hb
        refine wskip ?_
        exact ⟨Z, _, y176, y181, a177, c178, a182, c183, hm, hS.sl _, hO, h179, h180, h184⟩
       rintro a w264 ⟨Z, X263, y167, y172, a168, c169, a173, c174, hm, hS, hO, h170, h171, h175⟩
       unfold VC45_J4 at hm
       refine region (ePb T hS [(0, I n_), (3, Sl a168 y167 c169), (4, Sl a120 y119 c121), (5, Sl a173 y172 c174), (6, I y147), (7, I (wR (y166 + 1)))] fun a hS => ?_)
       exact ⟨⟨y167, y172, wR (y166 + 1)⟩, ⟨Z, _, a168, c169, a173, c174, hm.1, hS.sl _, hO, h170, h171, h175⟩, hm.2⟩
      replace hm := hm.2 hb
      refine wexit (by rfl) ?_
      exact ⟨Z, _, y157, y162, a158, c159, a163, c164, hm, hS.sl _, hO, h160, h161, h165⟩
     rintro a w268 ⟨Z, X267, y148, y153, a149, c150, a154, c155, hm, hS, hO, h151, h152, h156⟩
     unfold VC45_J3 at hm
     refine region (ePb T hS [(0, I n_), (3, Sl a149 y148 c150), (4, Sl a120 y119 c121), (5, Sl a154 y153 c155), (6, I (wR (y147 + 1)))] fun a hS => ?_)
     exact ⟨⟨y148, y153, wR (y147 + 1)⟩, ⟨Z, _, a149, c150, a154, c155, hm.1, hS.sl _, hO, h151, h152, h156⟩, hm.2⟩
    replace hm := hm.2 hb
    refine wexit (by rfl) ?_
    exact ⟨Z, _, y138, y143, a139, c140, a144, c145, hm, hS.sl _, hO, h141, h146⟩
   rintro a w272 ⟨Z, X271, y123, y127, a124, c125, a128, c129, hm, hS, hO, h126, h130⟩
   unfold VC45_J2 at hm
   refine regO ?_
   refine oPb T hS 2 [(0, I n_), (3, Sl a124 y123 c125), (5, Sl a128 y127 c129), (61, Sl a124 y123 c125), (62, Sl a128 y127 c129)] fun a hS => ?_
   obtain ⟨hq, hm⟩ := hm
   obtain ⟨news, hN⟩ := h130.src
   refine op1 (append (E := 48) (T := (tSlice tI)) (col := 1003) (xs := y123) T hS kr kr kr kr h126 hN kr kr kr kr hq ?_)
   intro a134 c135 a w131 X132 hE h133 hS
   clear hq hN
   clear h126
   replace hO := hO.m2 hE
   replace h130 := h130.m2 hE
   refine ePb T hS [(0, I n_), (3, Sl a134 (y123 ++ y127) c135), (5, Sl a128 y127 c129)] fun a hS => ?_
   refine region ?_
   refine oPb T hS 1 [(0, I n_), (3, Sl a134 (y123 ++ y127) c135), (64, Sl a128 y127 c129)] fun a hS => ?_
   obtain ⟨X136, hE, hF⟩ := h130.freeze (by decide)
   replace hS := hS.ev hE (xone_box kr)
   replace hO := hO.m2 hE
   replace h133 := h133.m2 hE
   have h137 := hF; clear hE hF
   refine op1 (plain1 T hS kr kr kr (sv := Sl a128 y127 c129) kr ?_)
   intro a hS
   refine doneK ?_
   exact ⟨⟨y123 ++ y127, y127⟩, ⟨Z, _, a134, c135, a128, c129, hm.1, hS.sl _, hO, h133, h137⟩, hm.2⟩
  replace hm := hm.2 hb
  refine wexit (by rfl) ?_
  exact ⟨Z, _, y115, a116, c117, hm, hS.sl _, hO, h118⟩
 rintro a w276 ⟨Z, X275, y109, a110, c111, hm, hS, hO, h112⟩
 unfold VC45_J1 at hm
 refine rPb T hS [(2, Sl a110 y109 c111)] fun a hS => ?_
 refine wret ?_
 obtain ⟨X113, hE, hF⟩ := h112.freeze (by decide)
 replace hS := hS.ev hE (xone_box kr)
 replace hO := hO.m2 hE
 have h114 := hF; clear hE hF
 exact fin T hS hO (fun c => c) rfl (r := [.slice a110 y109.length c111]) kr (fun X' hM hC => ⟨y109, hm, a110, c111, rfl, h114.m0 hM⟩)
theorem C45 (v : ∀ (n_ : Int), preOr n_ -> VC45 n_ (fun r => r = ref30_Orders n_)) : S45 := by
 intro w X n_    hp 
 refine (W45 w X n_    _ (v n_ hp)).mono ?_
 rintro _ _ _ _ ⟨r, rfl, h⟩
 exact h
theorem W29 (k45 : S45) (k46 : S46) (k47 : S47) (w0) (X0) (o_ : Api_Object) (l_ : List Api_Oper) (a1) (c1) (a2) (c2) (Q : (List (List Api_Pick)) -> Prop) (hm : VC29 o_ l_ Q) (h1 : RS tApi_Row w0 X0 a1 o_.Rows c1) (h2 : RS tApi_Oper w0 X0 a2 l_ c2) :
  Ret Try.prog 29 #[.agg #[.int .i64 o_.States, .int .i64 o_.Kinds, .int .i64 o_.Init, .slice a1 o_.Rows.length c1], .slice a2 l_.length c2] xnone w0 X0 (fun w X' v => ∃ r, Q r /\ ∃ ra1 rc1, v = .slice ra1 r.length rc1 /\ RS (tSlice tApi_Pick) w X' ra1 r rc1) := by
 unfold VC29 at hm
 replace hm := hm (h1.sm kr)
 replace hm := hm (h2.sm kr)
 refine enter Try.func29 rfl (vals := [.agg #[.int .i64 o_.States, .int .i64 o_.Kinds, .int .i64 o_.Init, .slice a1 o_.Rows.length c1], .slice a2 l_.length c2]) kr ?_
 intro Z a hS hO hM
 replace h1 := h1.m0 hM
 replace h2 := h2.m0 hM
 refine rM T hS ⟨[(1, Sl a2 l_ c2), (2, Pt 3 0)], [(3, (24, (cO o_ a1 c1)))]⟩ fun Z a w174 X175 hS hE hr => ?_
 replace hO := hO.m2 hE
 replace h1 := h1.m1 hE
 replace h2 := h2.m1 hE
 clear hE hr
 refine rPb T hS [(1, Sl a2 l_ c2), (2, Pt 3 0), (5, V (.slice none 0 0))] fun a hS => ?_
 refine regO ?_
 refine oPb T hS 2 [(1, Sl a2 l_ c2), (2, Pt 3 0), (5, V (.slice none 0 0)), (11, I (lN l_))] fun a hS => ?_
 obtain ⟨hq, hm⟩ := hm
 refine op1 (call hS kr kr hb45 kr (fun _ _ => rfl) (k45 _ _ (lN l_) hq) ?_)
 intro v101 a w102 X103 hE hp hS
 replace hO := hO.m2 hE
 replace h1 := h1.m1 hE
 replace h2 := h2.m1 hE
 obtain ⟨a105, c106, hp, h107⟩ := hp
 obtain ⟨r104, hr⟩ : ∃ r, ref30_Orders (lN l_) = r := ⟨_, rfl⟩
 replace hm := hm r104 hr
 rw [hr] at hp h107
 clear hr
 subst hp
 replace hm := hm (h107.sm kr)
 refine ePb T hS [(1, Sl a2 l_ c2), (2, Pt 3 0), (5, V (.slice none 0 0)), (6, Sl a105 r104 c106)] fun a hS => ?_
 refine wcut (fun a w => ∃ (Z : Nat -> Nat) (X : Nat -> Nat) (y108 : List (List Api_Pick)) (a109 : Option Addr) (c110 : Nat), VC29_J1 Q y108 /\ St Try.f29.ntmps ⟨[(5, Sl a109 y108 c110)], []⟩ Z a w X /\ Old w0 X0 w X /\ OS (tSlice tApi_Pick) 84 w X 1005 a109 y108 c110) ?_ ?_
 ·refine rPb T hS [(1, Sl a2 l_ c2), (2, Pt 3 0), (5, V (.slice none 0 0)), (6, Sl a105 r104 c106), (7, I 0)] fun a hS => ?_
  refine wblock ?_
  obtain ⟨I1, μ1, hm0, hm⟩ := hm
  refine wloop (σ := (List (List Api_Pick)) × Int) (fun s a w => ∃ Z X a116 c117, I1 s.1 s.2 /\ St Try.f29.ntmps ⟨[(1, Sl a2 l_ c2), (2, Pt 3 0), (5, Sl a116 s.1 c117), (6, Sl a105 r104 c106), (7, I s.2)], [(3, (24, (cO o_ a1 c1)))]⟩ Z a w X /\ Old w0 X0 w X /\ RS tApi_Oper w X a2 l_ c2 /\ OS (tSlice tApi_Pick) 84 w X 1005 a116 s.1 c117 /\ RS (tSlice tI) w X a105 r104 c106 /\ RS tApi_Row w X a1 o_.Rows c1) (fun s => μ1 s.1 s.2) (⟨[], 0⟩) ?_ ?_
  ·exact ⟨Z, _, none, 0, hm0, hS.sl _, hO, h2, (OS.nil _ _ _ _ _), h107, h1⟩
  rintro ⟨y115, y120⟩ a w171 ⟨Z, X170, a116, c117, hI, hS, hO, h114, h118, h119, h121⟩
  replace hm := hm y115 y120 hI
  clear hI hm0
  refine wseq ?_
  refine rPb T hS [(1, Sl a2 l_ c2), (2, Pt 3 0), (5, Sl a116 y115 c117), (6, Sl a105 r104 c106), (7, I y120), (16, B (decide (y120 < (lN r104))))] fun a hS => ?_
  refine wcond hS (b := decide (y120 < (lN r104))) kr (fun hb => ?_) fun hb => ?_
  ·replace hm := hm.1 hb
   refine wskip ?_
   refine wcut (fun a w => ∃ (Z : Nat -> Nat) (X : Nat -> Nat) (y123 : List (List Api_Pick)) (a124 : Option Addr) (c125 : Nat), VC29_J2 I1 μ1 y115 y120 y123 /\ St Try.f29.ntmps ⟨[(1, Sl a2 l_ c2), (2, Pt 3 0), (5, Sl a124 y123 c125), (6, Sl a105 r104 c106), (7, I y120)], [(3, (24, (cO o_ a1 c1)))]⟩ Z a w X /\ Old w0 X0 w X /\ RS tApi_Oper w X a2 l_ c2 /\ OS (tSlice tApi_Pick) 84 w X 1005 a124 y123 c125 /\ RS (tSlice tI) w X a105 r104 c106 /\ RS tApi_Row w X a1 o_.Rows c1) ?_ ?_
   ·refine wblock ?_
    refine drawnSX [3] mixed hS ?_
    intro w129 X130 hS hE hD hH
    replace hO := hO.m2 hE
    replace h114 := h114.m1 hE
    replace h118 := h118.m2 hE
    replace h119 := h119.m1 hE
    replace h121 := h121.m1 hE
    refine tkb T [0, 1, 2, 3] [3] hS hH #[true, true, true, true, false, false, false, false, false, false, false, false] 8 [(1, Sl a2 l_ c2), (2, Pt 3 0), (5, Sl a116 y115 c117), (6, Sl a105 r104 c106), (7, I y120), (20, V (.agg #[.int .i64 o_.States, .int .i64 o_.Kinds, .int .i64 o_.Init, .slice a1 o_.Rows.length c1])), (21, Sl a2 l_ c2), (22, Sl a105 r104 c106), (23, I y120)] fun a hS => ?_
    obtain ⟨hq, hm⟩ := hm
    refine dindex (e := 48) (k := .i64) T 4 hS kr kr kr (by rfl) kr hH kr kr h119 kr kr hq.1 hq.2 ?_
    intro A131 a h132 hS
    have h132b := h132.here
    refine dload1 T 5 hS kr kr kr (by rfl) kr hH kr h132 h132b rfl kr ?_
    intro v133 a hv hS
    obtain ⟨a134, c135, hv, h136⟩ := hv
    cases hv
    replace hm := hm (h136.sm kr)
    obtain ⟨hq, hm⟩ := hm
    refine only 6 kr (by rfl) (call hS kr kr hb46 kr (fun _ _ => rfl) (k46 _ _ o_ l_ (gi r104 y120) a1 c1 a2 c2 a134 c135 hq h121 h114 h136) ?_)
    intro v137 a w138 X139 hE hp hS
    replace hO := hO.m2 hE
    replace hD := hD.ev hE rfl
    replace h114 := h114.m1 hE
    replace h118 := h118.m2 hE
    replace h119 := h119.m1 hE
    replace h121 := h121.m1 hE
    replace h132 := h132.m1 hE
    replace h136 := h136.m1 hE
    obtain ⟨a141, c142, hp, h143⟩ := hp
    obtain ⟨r140, hr⟩ : ∃ r, ref28_Fill o_ l_ (gi r104 y120) = r := ⟨_, rfl⟩
    replace hm := hm r140 hr
    rw [hr] at hp h143
    clear hr
    subst hp
    replace hm := hm (h143.sm kr)
    replace hS := hS.slb [(1, Sl a2 l_ c2), (2, Pt 3 0), (5, Sl a116 y115 c117), (6, Sl a105 r104 c106), (7, I y120), (20, V (.agg #[.int .i64 o_.States, .int .i64 o_.Kinds, .int .i64 o_.Init, .slice a1 o_.Rows.length c1])), (21, Sl a2 l_ c2), (22, Sl a105 r104 c106), (23, I y120), (24, V (.pointer (some A131))), (25, Sl a134 (gi r104 y120) c135), (26, V (.tuple #[.slice a141 r140.1.length c142, .int .i64 r140.2]))]
    refine andH (Hold.of hS (bks := [3]) kr hD) ?_
    intro hH
    refine tkb T [7, 8, 9, 10, 11] [3] hS hH (tts 12) 0 [(1, Sl a2 l_ c2), (2, Pt 3 0), (5, Sl a116 y115 c117), (6, Sl a105 r104 c106), (7, I y120), (8, Sl a141 r140.1 c142), (9, I r140.2)] fun a hS => ?_
    refine drawnDone kr ?_
    replace hS := hS.slb [(1, Sl a2 l_ c2), (2, Pt 3 0), (5, Sl a116 y115 c117), (6, Sl a105 r104 c106), (7, I y120), (8, Sl a141 r140.1 c142), (9, I r140.2)]
    refine wcut (fun a w => ∃ (Z : Nat -> Nat) (X : Nat -> Nat) (y145 : List (List Api_Pick)) (y151 : Bool) (a146 : Option Addr) (c147 : Nat), VC29_J3 I1 μ1 y115 y120 r140 y145 y151 /\ St Try.f29.ntmps ⟨[(1, Sl a2 l_ c2), (2, Pt 3 0), (5, Sl a146 y145 c147), (6, Sl a105 r104 c106), (7, I y120), (8, Sl a141 r140.1 c142), (36, B y151)], [(3, (24, (cO o_ a1 c1)))]⟩ Z a w X /\ Old w0 X0 w X /\ RS tApi_Oper w X a2 l_ c2 /\ OS (tSlice tApi_Pick) 84 w X 1005 a146 y145 c147 /\ RS (tSlice tI) w X a105 r104 c106 /\ RS tApi_Pick w X a141 r140.1 c142 /\ RS tApi_Row w X a1 o_.Rows c1) ?_ ?_
    ·refine region ?_
     refine oPb T hS 3 [(1, Sl a2 l_ c2), (2, Pt 3 0), (5, Sl a116 y115 c117), (6, Sl a105 r104 c106), (7, I y120), (8, Sl a141 r140.1 c142), (31, B (r140.2 == 0))] fun a hS => ?_
     rcases bft (r140.2 == 0) with hb | hb
     ·replace hS := hS.lit (t := 31) kr hb
      replace hm := hm.1 hb
      refine oPb T hS 3 [(1, Sl a2 l_ c2), (2, Pt 3 0), (5, Sl a116 y115 c117), (6, Sl a105 r104 c106), (7, I y120), (8, Sl a141 r140.1 c142), (31, B true), (32, V (.agg #[.int .i64 o_.States, .int .i64 o_.Kinds, .int .i64 o_.Init, .slice a1 o_.Rows.length c1])), (33, Sl a2 l_ c2), (34, Sl a141 r140.1 c142)] fun a hS => ?_
      refine op1 (call hS kr kr hb47 kr (fun _ _ => rfl) (k47 _ _ o_ l_ r140.1 a1 c1 a2 c2 a141 c142 h121 h114 h143) ?_)
      intro v162 a w163 X164 hE hp hS
      replace hO := hO.m2 hE
      replace h114 := h114.m1 hE
      replace h118 := h118.m2 hE
      replace h119 := h119.m1 hE
      replace h121 := h121.m1 hE
      replace h143 := h143.m1 hE
      obtain ⟨r165, hr⟩ : ∃ r, ref29_Lin o_ l_ r140.1 = r := ⟨_, rfl⟩
      replace hm := hm r165 hr
      rw [hr] at hp
      clear hr
      subst hp
      refine ePb T hS [(1, Sl a2 l_ c2), (2, Pt 3 0), (5, Sl a116 y115 c117), (6, Sl a105 r104 c106), (7, I y120), (8, Sl a141 r140.1 c142), (36, B r165)] fun a hS => ?_
      exact ⟨Z, _, y115, r165, a116, c117, hm, hS.sl _, hO, h114, h118, h119, h143, h121⟩
     replace hS := hS.lit (t := 31) kr hb
     replace hm := hm.2 hb
     refine ePb T hS [(1, Sl a2 l_ c2), (2, Pt 3 0), (5, Sl a116 y115 c117), (6, Sl a105 r104 c106), (7, I y120), (8, Sl a141 r140.1 c142), (36, B false)] fun a hS => ?_
     exact ⟨Z, _, y115, false, a116, c117, hm, hS.sl _, hO, h114, h118, h119, h143, h121⟩
    rintro a w167 ⟨Z, X166, y145, y151, a146, c147, hm, hS, hO, h144, h148, h149, h150, h152⟩
    unfold VC29_J3 at hm
    refine wcond hS (b := y151) kr (fun hb => ?_) fun hb => ?_
    ·replace hm := hm.1 hb
     refine region ?_
     refine oPb T hS 2 [(1, Sl a2 l_ c2), (2, Pt 3 0), (5, Sl a146 y145 c147), (6, Sl a105 r104 c106), (7, I y120), (37, Sl a146 y145 c147), (38, Sl a141 r140.1 c142)] fun a hS => ?_
     refine op1 (lit (E := 84) (col := 0) (T := (tSlice tApi_Pick)) (vals := [.slice a141 r140.1.length c142]) (ys := [r140.1]) T hS kr kr kr kr (by exact ⟨⟨a141, c142, rfl, h150⟩, trivial⟩) rfl kr kr kr kr ?_)
     intro b153 a w154 X155 hE h156 hN hS
     clear hN
     replace hO := hO.m2 hE
     replace h144 := h144.m1 hE
     replace h148 := h148.m2 hE
     replace h149 := h149.m1 hE
     replace h150 := h150.m1 hE
     replace h152 := h152.m1 hE
     replace h156 := h156.rs0
     obtain ⟨hq, hm⟩ := hm
     obtain ⟨news, hN⟩ := h156.src
     refine op1 (append (E := 84) (T := (tSlice tApi_Pick)) (col := 1005) (xs := y145) T hS kr kr kr kr h148 hN kr kr kr kr hq ?_)
     intro a160 c161 a w157 X158 hE h159 hS
     clear hq hN
     clear h148
     replace hO := hO.m2 hE
     replace h144 := h144.m1 hE
     replace h149 := h149.m1 hE
     replace h150 := h150.m1 hE
     replace h152 := h152.m1 hE
     replace h156 := h156.m1 hE
     refine ePb T hS [(1, Sl a2 l_ c2), (2, Pt 3 0), (5, Sl a160 (y145 ++ [r140.1]) c161), (6, Sl a105 r104 c106), (7, I y120)] fun a hS => ?_
     exact ⟨Z, _, y145 ++ [r140.1], a160, c161, hm, hS.sl _, hO, h144, h159, h149, h152⟩
    replace hm := hm.2 hb
    refine wskip ?_
    exact ⟨Z, _, y145, a146, c147, hm, hS.sl _, hO, h144, h148, h149, h152⟩
   rintro a w169 ⟨Z, X168, y123, a124, c125, hm, hS, hO, h122, h126, h127, h128⟩
   unfold VC29_J2 at hm
   refine region (ePb T hS [(1, Sl a2 l_ c2), (2, Pt 3 0), (5, Sl a124 y123 c125), (6, Sl a105 r104 c106), (7, I (wR (y120 + 1)))] fun a hS => ?_)
   exact ⟨⟨y123, wR (y120 + 1)⟩, ⟨Z, _, a124, c125, hm.1, hS.sl _, hO, h122, h126, h127, h128⟩, hm.2⟩
  replace hm := hm.2 hb
  refine wexit (by rfl) ?_
  exact ⟨Z, _, y115, a116, c117, hm, hS.sl _, hO, h118⟩
 rintro a w173 ⟨Z, X172, y108, a109, c110, hm, hS, hO, h111⟩
 unfold VC29_J1 at hm
 refine rPb T hS [(4, Sl a109 y108 c110)] fun a hS => ?_
 refine wret ?_
 obtain ⟨X112, hE, hF⟩ := h111.freeze (by decide)
 replace hS := hS.ev hE (xone_box kr)
 replace hO := hO.m2 hE
 have h113 := hF; clear hE hF
 exact fin T hS hO (fun c => c) rfl (r := [.slice a109 y108.length c110]) kr (fun X' hM hC => ⟨y108, hm, a109, c110, rfl, h113.m0 hM⟩)
theorem C29 (k45 : S45) (k46 : S46) (k47 : S47) (v : ∀ (o_ : Api_Object) (l_ : List Api_Oper), preAA o_ l_ -> VC29 o_ l_ (fun r => r = ref30_All o_ l_)) : S29 := by
 intro w X o_ l_ a1 c1 a2 c2   hp h1 h2
 refine (W29 k45 k46 k47 w X o_ l_ a1 c1 a2 c2   _ (v o_ l_ hp) h1 h2).mono ?_
 rintro _ _ _ _ ⟨r, rfl, h⟩
 exact h
theorem W71 (w0) (X0) (l_ : List Api_Event) (process : Int) (a1) (c1) (Q : Int -> Prop) (hm : VC71 l_ process Q) (h1 : RS tApi_Event w0 X0 a1 l_ c1) :
  Ret Try.prog 71 #[.slice a1 l_.length c1, .int .i64 process] xnone w0 X0 (fun w X' v => ∃ r, Q r /\ v = .int .i64 r) := by
 unfold VC71 at hm
 replace hm := hm (h1.sm kr)
 refine enter Try.func71 rfl (vals := [.slice a1 l_.length c1, .int .i64 process]) kr ?_
 intro Z a hS hO hM
 replace h1 := h1.m0 hM
 refine rPb T hS [(0, Sl a1 l_ c1), (1, I process)] fun a hS => ?_
 refine rPb T hS [(0, Sl a1 l_ c1), (1, I process), (5, I (-1))] fun a hS => ?_
 refine wcut (fun a w => ∃ (Z : Nat -> Nat) (X : Nat -> Nat) (y101 : Int), VC71_J1 Q y101 /\ St Try.f71.ntmps ⟨[(5, I y101)], []⟩ Z a w X /\ Old w0 X0 w X) ?_ ?_
 ·refine rPb T hS [(0, Sl a1 l_ c1), (1, I process), (5, I (-1)), (6, I 0)] fun a hS => ?_
  refine wblock ?_
  obtain ⟨I1, μ1, hm0, hm⟩ := hm
  refine wloop (σ := Int × Int) (fun s a w => ∃ Z X, I1 s.1 s.2 /\ St Try.f71.ntmps ⟨[(0, Sl a1 l_ c1), (1, I process), (5, I s.1), (6, I s.2)], []⟩ Z a w X /\ Old w0 X0 w X /\ RS tApi_Event w X a1 l_ c1) (fun s => μ1 s.1 s.2) (⟨(-1), 0⟩) ?_ ?_
  ·exact ⟨Z, _, hm0, hS.sl _, hO, h1⟩
  rintro ⟨y103, y104⟩ a w115 ⟨Z, X114, hI, hS, hO, h102⟩
  replace hm := hm y103 y104 hI
  clear hI hm0
  refine wseq ?_
  refine rPb T hS [(0, Sl a1 l_ c1), (1, I process), (5, I y103), (6, I y104), (10, B (decide (y104 < (lN l_))))] fun a hS => ?_
  refine wcond hS (b := decide (y104 < (lN l_))) kr (fun hb => ?_) fun hb => ?_
  ·replace hm := hm.1 hb
   refine wskip ?_
   refine wcut (fun a w => ∃ (Z : Nat -> Nat) (X : Nat -> Nat) (y106 : Int), VC71_J2 I1 μ1 y103 y104 y106 /\ St Try.f71.ntmps ⟨[(0, Sl a1 l_ c1), (1, I process), (5, I y106), (6, I y104)], []⟩ Z a w X /\ Old w0 X0 w X /\ RS tApi_Event w X a1 l_ c1) ?_ ?_
   ·refine wblock ?_
    refine regO ?_
    refine oPb T hS 2 [(0, Sl a1 l_ c1), (1, I process), (5, I y103), (6, I y104), (13, Sl a1 l_ c1), (14, I y104)] fun a hS => ?_
    obtain ⟨hq, hm⟩ := hm
    refine op1 (index (e := 54) (k := .i64) T hS kr kr kr kr h102 kr kr hq.1 hq.2 ?_)
    intro A107 a h108 hS
    refine op1 (fieldA (off := 1) (fsz := 1) (ft := 3) (TF := tI) (y := (gi l_ y104).Prc) T hS kr kr kr h108 kr kr kr (fun cs h => Api_Event_f1 h) ?_)
    intro A109 a h110 hS
    refine op1 (load1 T hS kr kr kr h110 rfl kr ?_)
    intro v111 a hv hS
    cases hv
    refine ePb T hS [(0, Sl a1 l_ c1), (1, I process), (5, I y103), (6, I y104), (19, B (((gi l_ y104).Prc) == process))] fun a hS => ?_
    refine wcond hS (b := (((gi l_ y104).Prc) == process)) kr (fun hb => ?_) fun hb => ?_
    ·replace hm := hm.1 hb
     refine region (ePb T hS [(0, Sl a1 l_ c1), (1, I process), (5, I y104), (6, I y104)] fun a hS => ?_)
     exact ⟨Z, _, y104, hm, hS.sl _, hO, h102⟩
    replace hm := hm.2 hb
    refine wskip ?_
    exact ⟨Z, _, y103, hm, hS.sl _, hO, h102⟩
   rintro a w113 ⟨Z, X112, y106, hm, hS, hO, h105⟩
   unfold VC71_J2 at hm
   refine region (ePb T hS [(0, Sl a1 l_ c1), (1, I process), (5, I y106), (6, I (wR (y104 + 1)))] fun a hS => ?_)
   exact ⟨⟨y106, wR (y104 + 1)⟩, ⟨Z, _, hm.1, hS.sl _, hO, h105⟩, hm.2⟩
  replace hm := hm.2 hb
  refine wexit (by rfl) ?_
  exact ⟨Z, _, y103, hm, hS.sl _, hO⟩
 rintro a w117 ⟨Z, X116, y101, hm, hS, hO⟩
 unfold VC71_J1 at hm
 refine rPb T hS [(4, I y101)] fun a hS => ?_
 refine wret ?_
 exact fin T hS hO (fun c => c) rfl (r := [.int .i64 y101]) kr (fun X' hM hC => ⟨y101, hm, rfl⟩)
theorem C71 (v : ∀ (l_ : List Api_Event) (process : Int), VC71 l_ process (fun r => r = ref25_last l_ process)) : S71 := by
 intro w X l_ process a1 c1   h1
 refine (W71 w X l_ process a1 c1   _ (v l_ process) h1).mono ?_
 rintro _ _ _ _ ⟨r, rfl, h⟩
 exact h
theorem W56 (k71 : S71) (w0) (X0) (l_ : List Api_Event) (process : Int) (a1) (c1) (Q : Bool -> Prop) (hm : VC56 l_ process Q) (h1 : RS tApi_Event w0 X0 a1 l_ c1) :
  Ret Try.prog 56 #[.slice a1 l_.length c1, .int .i64 process] xnone w0 X0 (fun w X' v => ∃ r, Q r /\ v = .bool r) := by
 unfold VC56 at hm
 replace hm := hm (h1.sm kr)
 refine enter Try.func56 rfl (vals := [.slice a1 l_.length c1, .int .i64 process]) kr ?_
 intro Z a hS hO hM
 replace h1 := h1.m0 hM
 refine rPb T hS [(0, Sl a1 l_ c1), (1, I process)] fun a hS => ?_
 refine regO ?_
 refine oPb T hS 2 [(0, Sl a1 l_ c1), (6, Sl a1 l_ c1), (7, I process)] fun a hS => ?_
 refine op1 (call hS kr kr hb71 kr (fun _ _ => rfl) (k71 _ _ l_ process a1 c1 h1) ?_)
 intro v101 a w102 X103 hE hp hS
 replace hO := hO.m2 hE
 replace h1 := h1.m1 hE
 obtain ⟨r104, hr⟩ : ∃ r, ref25_last l_ process = r := ⟨_, rfl⟩
 replace hm := hm r104 hr
 rw [hr] at hp
 clear hr
 subst hp
 refine ePb T hS [(0, Sl a1 l_ c1), (5, I r104)] fun a hS => ?_
 refine regO ?_
 refine oPb T hS 3 [(0, Sl a1 l_ c1), (5, I r104), (11, B (decide (r104 ≥ 0)))] fun a hS => ?_
 rcases bft (decide (r104 ≥ 0)) with hb | hb
 ·replace hS := hS.lit (t := 11) kr hb
  replace hm := hm.1 hb
  refine oPb T hS 2 [(11, B true), (12, Sl a1 l_ c1), (13, I r104)] fun a hS => ?_
  obtain ⟨hq, hm⟩ := hm
  refine op1 (index (e := 54) (k := .i64) T hS kr kr kr kr h1 kr kr hq.1 hq.2 ?_)
  intro A105 a h106 hS
  refine op1 (fieldA (off := 0) (fsz := 1) (ft := 3) (TF := tI) (y := (gi l_ r104).What) T hS kr kr kr h106 kr kr kr (fun cs h => Api_Event_f0 h) ?_)
  intro A107 a h108 hS
  refine op1 (load1 T hS kr kr kr h108 rfl kr ?_)
  intro v109 a hv hS
  cases hv
  refine ePb T hS [(4, B (((gi l_ r104).What) == 1))] fun a hS => ?_
  refine wret ?_
  exact fin T hS hO (fun c => c) rfl (r := [.bool (((gi l_ r104).What) == 1)]) kr (fun X' hM hC => ⟨(((gi l_ r104).What) == 1), hm, rfl⟩)
 replace hS := hS.lit (t := 11) kr hb
 replace hm := hm.2 hb
 refine ePb T hS [(4, B false)] fun a hS => ?_
 refine wret ?_
 exact fin T hS hO (fun c => c) rfl (r := [.bool false]) kr (fun X' hM hC => ⟨false, hm, rfl⟩)
theorem C56 (k71 : S71) (v : ∀ (l_ : List Api_Event) (process : Int), VC56 l_ process (fun r => r = ref25_open l_ process)) : S56 := by
 intro w X l_ process a1 c1   h1
 refine (W56 k71 w X l_ process a1 c1   _ (v l_ process) h1).mono ?_
 rintro _ _ _ _ ⟨r, rfl, h⟩
 exact h
theorem W42 (k56 : S56) (w0) (X0) (l_ : List Api_Event) (a1) (c1) (Q : Int × Int -> Prop) (hm : VC42 l_ Q) (h1 : RS tApi_Event w0 X0 a1 l_ c1) :
  Ret Try.prog 42 #[.slice a1 l_.length c1] xnone w0 X0 (fun w X' v => ∃ r, Q r /\ v = .tuple #[.int .i64 r.1, .int .i64 r.2]) := by
 unfold VC42 at hm
 replace hm := hm (h1.sm kr)
 refine enter Try.func42 rfl (vals := [.slice a1 l_.length c1]) kr ?_
 intro Z a hS hO hM
 replace h1 := h1.m0 hM
 refine rPb T hS [(0, Sl a1 l_ c1)] fun a hS => ?_
 refine wseq ?_
 refine rPb T hS [(0, Sl a1 l_ c1), (8, B (decide ((lN l_) > 10000)))] fun a hS => ?_
 refine wcond hS (b := decide ((lN l_) > 10000)) kr (fun hb => ?_) fun hb => ?_
 ·replace hm := hm.1 hb
  refine rPb T hS [(2, I 0), (3, I 3)] fun a hS => ?_
  refine wret ?_
  exact fin T hS hO (fun c => c) rfl (r := [.int .i64 0, .int .i64 3]) kr (fun X' hM hC => ⟨(0, 3), hm, rfl⟩)
 replace hm := hm.2 hb
 refine wskip ?_
 refine wcut (fun a w => ∃ Z X, VC42_J1 l_ Q /\ St Try.f42.ntmps ⟨[(0, Sl a1 l_ c1)], []⟩ Z a w X /\ Old w0 X0 w X /\ RS tApi_Event w X a1 l_ c1) ?_ ?_
 ·refine rPb T hS [(0, Sl a1 l_ c1), (4, I 0)] fun a hS => ?_
  refine wblock ?_
  obtain ⟨I1, μ1, hm0, hm⟩ := hm
  refine wloop (σ := Int) (fun s a w => ∃ Z X, I1 s /\ St Try.f42.ntmps ⟨[(0, Sl a1 l_ c1), (4, I s)], []⟩ Z a w X /\ Old w0 X0 w X /\ RS tApi_Event w X a1 l_ c1) (fun s => μ1 s) (0) ?_ ?_
  ·exact ⟨Z, _, hm0, hS.sl _, hO, h1⟩
  rintro y103 a w137 ⟨Z, X136, hI, hS, hO, h102⟩
  replace hm := hm y103 hI
  clear hI hm0
  refine wseq ?_
  refine rPb T hS [(0, Sl a1 l_ c1), (4, I y103), (12, B (decide (y103 < (lN l_))))] fun a hS => ?_
  refine wcond hS (b := decide (y103 < (lN l_))) kr (fun hb => ?_) fun hb => ?_
  ·replace hm := hm.1 hb
   refine wskip (wseq ?_)
   refine wblock ?_
   refine regO ?_
   refine oPb T hS 2 [(0, Sl a1 l_ c1), (4, I y103), (15, Sl a1 l_ c1), (16, I y103)] fun a hS => ?_
   obtain ⟨hq, hm⟩ := hm
   refine op1 (index (e := 54) (k := .i64) T hS kr kr kr kr h102 kr kr hq.1 hq.2 ?_)
   intro A104 a h105 hS
   refine op1 (loadA T hS kr kr kr h105 kr kr ?_)
   intro v106 a hv hS
   subst hv
   refine eM T hS ⟨[(0, Sl a1 l_ c1), (4, I y103), (5, Pt 6 0)], [(6, (54, (cE (gi l_ y103))))]⟩ fun Z a w134 X135 hS hE hr => ?_
   replace hO := hO.m2 hE
   replace h102 := h102.m1 hE
   clear hE hr
   refine wseq ?_
   refine rPb T hS [(0, Sl a1 l_ c1), (4, I y103), (5, Pt 6 0), (26, B ((((gi l_ y103).What) != 1) && (((gi l_ y103).What) != 2)))] (sp := [22]) fun a hS => ?_
   refine wcond hS (b := ((((gi l_ y103).What) != 1) && (((gi l_ y103).What) != 2))) kr (fun hb => ?_) fun hb => ?_
   ·replace hm := hm.1 hb
    refine rP T hS ⟨[(2, I y103), (3, I 8)], []⟩ fun a hS => ?_
    refine wret ?_
    exact fin T hS hO (fun c => c) rfl (r := [.int .i64 y103, .int .i64 8]) kr (fun X' hM hC => ⟨(y103, 8), hm, rfl⟩)
   replace hm := hm.2 hb
   refine wskip (wseq ?_)
   refine rPb T hS [(0, Sl a1 l_ c1), (4, I y103), (5, Pt 6 0), (35, B ((decide (((gi l_ y103).Prc) < 1)) || (decide (((gi l_ y103).Prc) > 1000))))] (sp := [31]) fun a hS => ?_
   refine wcond hS (b := ((decide (((gi l_ y103).Prc) < 1)) || (decide (((gi l_ y103).Prc) > 1000)))) kr (fun hb => ?_) fun hb => ?_
   ·replace hm := hm.1 hb
    refine rP T hS ⟨[(2, I y103), (3, I 2)], []⟩ fun a hS => ?_
    refine wret ?_
    exact fin T hS hO (fun c => c) rfl (r := [.int .i64 y103, .int .i64 2]) kr (fun X' hM hC => ⟨(y103, 2), hm, rfl⟩)
   replace hm := hm.2 hb
   refine wskip (wseq ?_)
   refine rPb T hS [(0, Sl a1 l_ c1), (4, I y103), (5, Pt 6 0), (49, B ((((gi l_ y103).What) == 1) && ((decide (((gi l_ y103).N) < 0)) || (decide (((gi l_ y103).N) > 63)))))] (sp := [40, 44]) fun a hS => ?_
   refine wcond hS (b := ((((gi l_ y103).What) == 1) && ((decide (((gi l_ y103).N) < 0)) || (decide (((gi l_ y103).N) > 63))))) kr (fun hb => ?_) fun hb => ?_
   ·replace hm := hm.1 hb
    refine rP T hS ⟨[(2, I y103), (3, I 31)], []⟩ fun a hS => ?_
    refine wret ?_
    exact fin T hS hO (fun c => c) rfl (r := [.int .i64 y103, .int .i64 31]) kr (fun X' hM hC => ⟨(y103, 31), hm, rfl⟩)
   replace hm := hm.2 hb
   refine wskip (wseq ?_)
   refine rPb T hS [(0, Sl a1 l_ c1), (4, I y103), (5, Pt 6 0), (63, B ((((gi l_ y103).What) == 2) && ((decide (((gi l_ y103).N) < 0)) || (decide (((gi l_ y103).N) > 1000000)))))] (sp := [54, 58]) fun a hS => ?_
   refine wcond hS (b := ((((gi l_ y103).What) == 2) && ((decide (((gi l_ y103).N) < 0)) || (decide (((gi l_ y103).N) > 1000000))))) kr (fun hb => ?_) fun hb => ?_
   ·replace hm := hm.1 hb
    refine rP T hS ⟨[(2, I y103), (3, I 7)], []⟩ fun a hS => ?_
    refine wret ?_
    exact fin T hS hO (fun c => c) rfl (r := [.int .i64 y103, .int .i64 7]) kr (fun X' hM hC => ⟨(y103, 7), hm, rfl⟩)
   replace hm := hm.2 hb
   refine wskip ?_
   refine wcut (fun a w => ∃ (Z : Nat -> Nat) (X : Nat -> Nat) (y108 : Bool), VC42_J2 Q I1 μ1 y103 y108 /\ St Try.f42.ntmps ⟨[(0, Sl a1 l_ c1), (4, I y103), (89, B y108)], []⟩ Z a w X /\ Old w0 X0 w X /\ RS tApi_Event w X a1 l_ c1) ?_ ?_
   ·refine drawnX [6] mixed hS ?_
    intro w109 X110 hS hE hD hH
    replace hO := hO.m2 hE
    replace h102 := h102.m1 hE
    refine tkb T [0, 1, 2, 3] [6] hS hH #[true, true, true, true, false, false, false, false, false, false, false, false, false, false, false, false, false, false, false, false, false, false, false, false, false] 21 [(0, Sl a1 l_ c1), (4, I y103), (5, Pt 6 0), (68, B (((gi l_ y103).What) == 1))] fun a hS => ?_
    rcases bft (((gi l_ y103).What) == 1) with hb | hb
    ·replace hS := hS.lit (t := 68) kr hb
     replace hm := hm.1 hb
     refine tkb T [4, 5, 7, 8] [6] hS hH #[true, true, true, true, true, true, false, true, true, false, false, false, false, false, false, false, false, false, false, false, false, false, false, false, false] 17 [(0, Sl a1 l_ c1), (4, I y103), (5, Pt 6 0), (68, B true), (69, Sl a1 l_ c1), (70, I y103), (73, I ((gi l_ y103).Prc))] fun a hS => ?_
     obtain ⟨hq, hm⟩ := hm
     refine dslice0 (E := 54) (kh := .i64) T 6 hS kr kr kr (by rfl) kr hH kr kr h102 kr kr hq.1 hq.2 ?_
     intro a111 c112 a h113 hS
     refine only 9 kr (by rfl) (call hS kr kr hb56 kr (fun _ _ => rfl) (k56 _ _ (l_.take y103.toNat) ((gi l_ y103).Prc) a111 c112 h113) ?_)
     intro v114 a w115 X116 hE hp hS
     replace hO := hO.m2 hE
     replace hD := hD.ev hE rfl
     replace h102 := h102.m1 hE
     replace h113 := h113.m1 hE
     obtain ⟨r117, hr⟩ : ∃ r, ref25_open (l_.take y103.toNat) ((gi l_ y103).Prc) = r := ⟨_, rfl⟩
     replace hm := hm r117 hr
     rw [hr] at hp
     clear hr
     subst hp
     replace hS := hS.slb [(0, Sl a1 l_ c1), (4, I y103), (5, Pt 6 0), (68, B true), (69, Sl a1 l_ c1), (70, I y103), (73, I ((gi l_ y103).Prc)), (71, Sl a111 (l_.take y103.toNat) c112), (74, B r117)]
     refine andH (Hold.of hS (bks := [6]) kr hD) ?_
     intro hH
     refine tkb T [10, 11] [6] hS hH #[true, true, true, true, true, true, true, true, true, true, true, true, false, false, false, false, false, false, false, false, false, false, false, false, false] 13 [(0, Sl a1 l_ c1), (4, I y103), (5, Pt 6 0), (76, B r117)] fun a hS => ?_
     rcases bft r117 with hb | hb
     ·replace hS := hS.lit (t := 76) kr hb
      replace hm := hm.1 hb
      refine tkb T [12, 13, 14, 15, 16, 17, 19, 18, 20, 21, 22, 23, 24] [6] hS hH (tts 25) 0 [(0, Sl a1 l_ c1), (4, I y103), (89, B true)] fun a hS => ?_
      refine drawnDone kr ?_
      replace hS := hS.sl ⟨[(0, Sl a1 l_ c1), (4, I y103), (89, B true)], []⟩
      exact ⟨Z, _, true, hm, hS.sl _, hO, h102⟩
     replace hS := hS.lit (t := 76) kr hb
     replace hm := hm.2 hb
     refine tkb T [12, 13, 14, 15] [6] hS hH #[true, true, true, true, true, true, true, true, true, true, true, true, true, true, true, true, false, false, false, false, false, false, false, false, false] 9 [(0, Sl a1 l_ c1), (4, I y103), (5, Pt 6 0), (76, B false), (80, B (((gi l_ y103).What) == 2))] fun a hS => ?_
     rcases bft (((gi l_ y103).What) == 2) with hb | hb
     ·replace hS := hS.lit (t := 80) kr hb
      replace hm := hm.1 hb
      refine tkb T [16, 17, 19, 20] [6] hS hH #[true, true, true, true, true, true, true, true, true, true, true, true, true, true, true, true, true, true, false, true, true, false, false, false, false] 5 [(0, Sl a1 l_ c1), (4, I y103), (76, B false), (80, B true), (81, Sl a1 l_ c1), (82, I y103), (85, I ((gi l_ y103).Prc))] fun a hS => ?_
      obtain ⟨hq, hm⟩ := hm
      refine dslice0 (E := 54) (kh := .i64) T 18 hS kr kr kr (by rfl) kr hH kr kr h102 kr kr hq.1 hq.2 ?_
      intro a118 c119 a h120 hS
      refine only 21 kr (by rfl) (call hS kr kr hb56 kr (fun _ _ => rfl) (k56 _ _ (l_.take y103.toNat) ((gi l_ y103).Prc) a118 c119 h120) ?_)
      intro v121 a w122 X123 hE hp hS
      replace hO := hO.m2 hE
      replace hD := hD.ev hE rfl
      replace h102 := h102.m1 hE
      replace h113 := h113.m1 hE
      replace h120 := h120.m1 hE
      obtain ⟨r124, hr⟩ : ∃ r, ref25_open (l_.take y103.toNat) ((gi l_ y103).Prc) = r := ⟨_, rfl⟩
      replace hm := hm r124 hr
      rw [hr] at hp
      clear hr
      subst hp
      replace hS := hS.slb [(0, Sl a1 l_ c1), (4, I y103), (76, B false), (80, B true), (81, Sl a1 l_ c1), (82, I y103), (85, I ((gi l_ y103).Prc)), (83, Sl a118 (l_.take y103.toNat) c119), (86, B r124)]
      refine andH (Hold.of hS (bks := [6]) kr hD) ?_
      intro hH
      refine tkb T [22, 23, 24] [6] hS hH (tts 25) 0 [(0, Sl a1 l_ c1), (4, I y103), (89, B (!r124))] fun a hS => ?_
      refine drawnDone kr ?_
      replace hS := hS.sl ⟨[(0, Sl a1 l_ c1), (4, I y103), (89, B (!r124))], []⟩
      exact ⟨Z, _, (!r124), hm, hS.sl _, hO, h102⟩
     replace hS := hS.lit (t := 80) kr hb
     replace hm := hm.2 hb
     refine tkb T [16, 17, 19, 18, 20, 21, 22, 23, 24] [6] hS hH (tts 25) 0 [(0, Sl a1 l_ c1), (4, I y103), (89, B false)] fun a hS => ?_
     refine drawnDone kr ?_
     replace hS := hS.sl ⟨[(0, Sl a1 l_ c1), (4, I y103), (89, B false)], []⟩
     exact ⟨Z, _, false, hm, hS.sl _, hO, h102⟩
    replace hS := hS.lit (t := 68) kr hb
    replace hm := hm.2 hb
    refine tkb T [4, 5, 7, 6, 8, 9, 10, 11, 12, 13, 14, 15] [6] hS hH #[true, true, true, true, true, true, true, true, true, true, true, true, true, true, true, true, false, false, false, false, false, false, false, false, false] 9 [(0, Sl a1 l_ c1), (4, I y103), (5, Pt 6 0), (76, B false), (80, B (((gi l_ y103).What) == 2))] fun a hS => ?_
    rcases bft (((gi l_ y103).What) == 2) with hb | hb
    ·replace hS := hS.lit (t := 80) kr hb
     replace hm := hm.1 hb
     refine tkb T [16, 17, 19, 20] [6] hS hH #[true, true, true, true, true, true, true, true, true, true, true, true, true, true, true, true, true, true, false, true, true, false, false, false, false] 5 [(0, Sl a1 l_ c1), (4, I y103), (76, B false), (80, B true), (81, Sl a1 l_ c1), (82, I y103), (85, I ((gi l_ y103).Prc))] fun a hS => ?_
     obtain ⟨hq, hm⟩ := hm
     refine dslice0 (E := 54) (kh := .i64) T 18 hS kr kr kr (by rfl) kr hH kr kr h102 kr kr hq.1 hq.2 ?_
     intro a125 c126 a h127 hS
     refine only 21 kr (by rfl) (call hS kr kr hb56 kr (fun _ _ => rfl) (k56 _ _ (l_.take y103.toNat) ((gi l_ y103).Prc) a125 c126 h127) ?_)
     intro v128 a w129 X130 hE hp hS
     replace hO := hO.m2 hE
     replace hD := hD.ev hE rfl
     replace h102 := h102.m1 hE
     replace h127 := h127.m1 hE
     obtain ⟨r131, hr⟩ : ∃ r, ref25_open (l_.take y103.toNat) ((gi l_ y103).Prc) = r := ⟨_, rfl⟩
     replace hm := hm r131 hr
     rw [hr] at hp
     clear hr
     subst hp
     replace hS := hS.slb [(0, Sl a1 l_ c1), (4, I y103), (76, B false), (80, B true), (81, Sl a1 l_ c1), (82, I y103), (85, I ((gi l_ y103).Prc)), (83, Sl a125 (l_.take y103.toNat) c126), (86, B r131)]
     refine andH (Hold.of hS (bks := [6]) kr hD) ?_
     intro hH
     refine tkb T [22, 23, 24] [6] hS hH (tts 25) 0 [(0, Sl a1 l_ c1), (4, I y103), (89, B (!r131))] fun a hS => ?_
     refine drawnDone kr ?_
     replace hS := hS.sl ⟨[(0, Sl a1 l_ c1), (4, I y103), (89, B (!r131))], []⟩
     exact ⟨Z, _, (!r131), hm, hS.sl _, hO, h102⟩
    replace hS := hS.lit (t := 80) kr hb
    replace hm := hm.2 hb
    refine tkb T [16, 17, 19, 18, 20, 21, 22, 23, 24] [6] hS hH (tts 25) 0 [(0, Sl a1 l_ c1), (4, I y103), (89, B false)] fun a hS => ?_
    refine drawnDone kr ?_
    replace hS := hS.sl ⟨[(0, Sl a1 l_ c1), (4, I y103), (89, B false)], []⟩
    exact ⟨Z, _, false, hm, hS.sl _, hO, h102⟩
   rintro a w133 ⟨Z, X132, y108, hm, hS, hO, h107⟩
   unfold VC42_J2 at hm
   refine wcond hS (b := y108) kr (fun hb => ?_) fun hb => ?_
   ·replace hm := hm.1 hb
    refine rPb T hS [(2, I y103), (3, I 33)] fun a hS => ?_
    refine wret ?_
    exact fin T hS hO (fun c => c) rfl (r := [.int .i64 y103, .int .i64 33]) kr (fun X' hM hC => ⟨(y103, 33), hm, rfl⟩)
   replace hm := hm.2 hb
   refine wskip ?_
   refine region (ePb T hS [(0, Sl a1 l_ c1), (4, I (wR (y103 + 1)))] fun a hS => ?_)
   exact ⟨wR (y103 + 1), ⟨Z, _, hm.1, hS.sl _, hO, h107⟩, hm.2⟩
  replace hm := hm.2 hb
  refine wexit (by rfl) ?_
  exact ⟨Z, _, hm, hS.sl _, hO, h102⟩
 rintro a w139 ⟨Z, X138, hm, hS, hO, h101⟩
 unfold VC42_J1 at hm
 refine rPb T hS [(2, I (lN l_)), (3, I 0)] fun a hS => ?_
 refine wret ?_
 exact fin T hS hO (fun c => c) rfl (r := [.int .i64 (lN l_), .int .i64 0]) kr (fun X' hM hC => ⟨((lN l_), 0), hm, rfl⟩)
theorem C42 (k56 : S56) (v : ∀ (l_ : List Api_Event), VC42 l_ (fun r => r = ref25_Check l_)) : S42 := by
 intro w X l_ a1 c1   h1
 refine (W42 k56 w X l_ a1 c1   _ (v l_) h1).mono ?_
 rintro _ _ _ _ ⟨r, rfl, h⟩
 exact h
theorem W43 (w0) (X0) (l_ : List Api_Event) (a1) (c1) (Q : Int -> Prop) (hm : VC43 l_ Q) (h1 : RS tApi_Event w0 X0 a1 l_ c1) :
  Ret Try.prog 43 #[.slice a1 l_.length c1] xnone w0 X0 (fun w X' v => ∃ r, Q r /\ v = .int .i64 r) := by
 unfold VC43 at hm
 replace hm := hm (h1.sm kr)
 refine enter Try.func43 rfl (vals := [.slice a1 l_.length c1]) kr ?_
 intro Z a hS hO hM
 replace h1 := h1.m0 hM
 refine rPb T hS [(0, Sl a1 l_ c1)] fun a hS => ?_
 refine rPb T hS [(0, Sl a1 l_ c1), (3, I 0)] fun a hS => ?_
 refine wcut (fun a w => ∃ (Z : Nat -> Nat) (X : Nat -> Nat) (y101 : Int), VC43_J1 Q y101 /\ St Try.f43.ntmps ⟨[(3, I y101)], []⟩ Z a w X /\ Old w0 X0 w X) ?_ ?_
 ·refine rPb T hS [(0, Sl a1 l_ c1), (3, I 0), (4, I 0)] fun a hS => ?_
  refine wblock ?_
  obtain ⟨I1, μ1, hm0, hm⟩ := hm
  refine wloop (σ := Int × Int) (fun s a w => ∃ Z X, I1 s.1 s.2 /\ St Try.f43.ntmps ⟨[(0, Sl a1 l_ c1), (3, I s.1), (4, I s.2)], []⟩ Z a w X /\ Old w0 X0 w X /\ RS tApi_Event w X a1 l_ c1) (fun s => μ1 s.1 s.2) (⟨0, 0⟩) ?_ ?_
  ·exact ⟨Z, _, hm0, hS.sl _, hO, h1⟩
  rintro ⟨y103, y104⟩ a w143 ⟨Z, X142, hI, hS, hO, h102⟩
  replace hm := hm y103 y104 hI
  clear hI hm0
  refine wseq ?_
  refine rPb T hS [(0, Sl a1 l_ c1), (3, I y103), (4, I y104), (8, B (decide (y104 < (lN l_))))] fun a hS => ?_
  refine wcond hS (b := decide (y104 < (lN l_))) kr (fun hb => ?_) fun hb => ?_
  ·replace hm := hm.1 hb
   refine wskip ?_
   refine wcut (fun a w => ∃ (Z : Nat -> Nat) (X : Nat -> Nat) (y106 : Int), VC43_J2 I1 μ1 y103 y104 y106 /\ St Try.f43.ntmps ⟨[(0, Sl a1 l_ c1), (3, I y106), (4, I y104)], []⟩ Z a w X /\ Old w0 X0 w X /\ RS tApi_Event w X a1 l_ c1) ?_ ?_
   ·refine wblock ?_
    refine wcut (fun a w => ∃ (Z : Nat -> Nat) (X : Nat -> Nat) (y108 : Bool), VC43_J3 l_ I1 μ1 y103 y104 y108 /\ St Try.f43.ntmps ⟨[(0, Sl a1 l_ c1), (3, I y103), (4, I y104), (24, B y108)], []⟩ Z a w X /\ Old w0 X0 w X /\ RS tApi_Event w X a1 l_ c1) ?_ ?_
    ·refine region ?_
     refine oPb T hS 2 [(0, Sl a1 l_ c1), (3, I y103), (4, I y104), (11, Sl a1 l_ c1), (12, I y104)] fun a hS => ?_
     obtain ⟨hq, hm⟩ := hm
     refine op1 (index (e := 54) (k := .i64) T hS kr kr kr kr h102 kr kr hq.1 hq.2 ?_)
     intro A128 a h129 hS
     refine op1 (fieldA (off := 0) (fsz := 1) (ft := 3) (TF := tI) (y := (gi l_ y104).What) T hS kr kr kr h129 kr kr kr (fun cs h => Api_Event_f0 h) ?_)
     intro A130 a h131 hS
     refine op1 (load1 T hS kr kr kr h131 rfl kr ?_)
     intro v132 a hv hS
     cases hv
     refine oPb T hS 2 [(0, Sl a1 l_ c1), (3, I y103), (4, I y104), (17, B (((gi l_ y104).What) == 1))] fun a hS => ?_
     rcases bft (((gi l_ y104).What) == 1) with hb | hb
     ·replace hS := hS.lit (t := 17) kr hb
      replace hm := hm.1 hb
      refine oPb T hS 2 [(0, Sl a1 l_ c1), (3, I y103), (4, I y104), (17, B true), (18, Sl a1 l_ c1), (19, I y104)] fun a hS => ?_
      obtain ⟨hq, hm⟩ := hm
      refine op1 (index (e := 54) (k := .i64) T hS kr kr kr kr h102 kr kr hq.1 hq.2 ?_)
      intro A133 a h134 hS
      refine op1 (fieldA (off := 2) (fsz := 1) (ft := 3) (TF := tI) (y := (gi l_ y104).N) T hS kr kr kr h134 kr kr kr (fun cs h => Api_Event_f2 h) ?_)
      intro A135 a h136 hS
      refine op1 (load1 T hS kr kr kr h136 rfl kr ?_)
      intro v137 a hv hS
      cases hv
      refine ePb T hS [(0, Sl a1 l_ c1), (3, I y103), (4, I y104), (24, B (decide (((gi l_ y104).N) > 63)))] fun a hS => ?_
      exact ⟨Z, _, decide (((gi l_ y104).N) > 63), hm, hS.sl _, hO, h102⟩
     replace hS := hS.lit (t := 17) kr hb
     replace hm := hm.2 hb
     refine ePb T hS [(0, Sl a1 l_ c1), (3, I y103), (4, I y104), (24, B false)] fun a hS => ?_
     exact ⟨Z, _, false, hm, hS.sl _, hO, h102⟩
    rintro a w139 ⟨Z, X138, y108, hm, hS, hO, h107⟩
    unfold VC43_J3 at hm
    refine wcond hS (b := y108) kr (fun hb => ?_) fun hb => ?_
    ·replace hm := hm.1 hb
     refine region (ePb T hS [(0, Sl a1 l_ c1), (3, I 64), (4, I y104)] fun a hS => ?_)
     exact ⟨Z, _, 64, hm, hS.sl _, hO, h107⟩
    replace hm := hm.2 hb
    refine wcut (fun a w => ∃ (Z : Nat -> Nat) (X : Nat -> Nat) (y110 : Bool), VC43_J4 l_ I1 μ1 y103 y104 y110 /\ St Try.f43.ntmps ⟨[(0, Sl a1 l_ c1), (3, I y103), (4, I y104), (39, B y110)], []⟩ Z a w X /\ Old w0 X0 w X /\ RS tApi_Event w X a1 l_ c1) ?_ ?_
    ·refine region ?_
     refine oPb T hS 2 [(0, Sl a1 l_ c1), (3, I y103), (4, I y104), (25, Sl a1 l_ c1), (26, I y104)] fun a hS => ?_
     obtain ⟨hq, hm⟩ := hm
     refine op1 (index (e := 54) (k := .i64) T hS kr kr kr kr h107 kr kr hq.1 hq.2 ?_)
     intro A116 a h117 hS
     refine op1 (fieldA (off := 0) (fsz := 1) (ft := 3) (TF := tI) (y := (gi l_ y104).What) T hS kr kr kr h117 kr kr kr (fun cs h => Api_Event_f0 h) ?_)
     intro A118 a h119 hS
     refine op1 (load1 T hS kr kr kr h119 rfl kr ?_)
     intro v120 a hv hS
     cases hv
     refine oPb T hS 2 [(0, Sl a1 l_ c1), (3, I y103), (4, I y104), (31, B (((gi l_ y104).What) == 1))] fun a hS => ?_
     rcases bft (((gi l_ y104).What) == 1) with hb | hb
     ·replace hS := hS.lit (t := 31) kr hb
      replace hm := hm.1 hb
      refine oPb T hS 2 [(0, Sl a1 l_ c1), (3, I y103), (4, I y104), (31, B true), (32, Sl a1 l_ c1), (33, I y104)] fun a hS => ?_
      obtain ⟨hq, hm⟩ := hm
      refine op1 (index (e := 54) (k := .i64) T hS kr kr kr kr h107 kr kr hq.1 hq.2 ?_)
      intro A121 a h122 hS
      refine op1 (fieldA (off := 2) (fsz := 1) (ft := 3) (TF := tI) (y := (gi l_ y104).N) T hS kr kr kr h122 kr kr kr (fun cs h => Api_Event_f2 h) ?_)
      intro A123 a h124 hS
      refine op1 (load1 T hS kr kr kr h124 rfl kr ?_)
      intro v125 a hv hS
      cases hv
      refine ePb T hS [(0, Sl a1 l_ c1), (3, I y103), (4, I y104), (39, B (decide (((gi l_ y104).N) ≥ y103)))] fun a hS => ?_
      exact ⟨Z, _, decide (((gi l_ y104).N) ≥ y103), hm, hS.sl _, hO, h107⟩
     replace hS := hS.lit (t := 31) kr hb
     replace hm := hm.2 hb
     refine ePb T hS [(0, Sl a1 l_ c1), (3, I y103), (4, I y104), (39, B false)] fun a hS => ?_
     exact ⟨Z, _, false, hm, hS.sl _, hO, h107⟩
    rintro a w127 ⟨Z, X126, y110, hm, hS, hO, h109⟩
    unfold VC43_J4 at hm
    refine wcond hS (b := y110) kr (fun hb => ?_) fun hb => ?_
    ·replace hm := hm.1 hb
     refine region ?_
     refine oPb T hS 2 [(0, Sl a1 l_ c1), (3, I y103), (4, I y104), (40, Sl a1 l_ c1), (41, I y104)] fun a hS => ?_
     obtain ⟨hq, hm⟩ := hm
     refine op1 (index (e := 54) (k := .i64) T hS kr kr kr kr h109 kr kr hq.1 hq.2 ?_)
     intro A111 a h112 hS
     refine op1 (fieldA (off := 2) (fsz := 1) (ft := 3) (TF := tI) (y := (gi l_ y104).N) T hS kr kr kr h112 kr kr kr (fun cs h => Api_Event_f2 h) ?_)
     intro A113 a h114 hS
     refine op1 (load1 T hS kr kr kr h114 rfl kr ?_)
     intro v115 a hv hS
     cases hv
     refine ePb T hS [(0, Sl a1 l_ c1), (3, I (wR (((gi l_ y104).N) + 1))), (4, I y104)] fun a hS => ?_
     exact ⟨Z, _, wR (((gi l_ y104).N) + 1), hm, hS.sl _, hO, h109⟩
    replace hm := hm.2 hb
    refine wskip ?_
    exact ⟨Z, _, y103, hm, hS.sl _, hO, h109⟩
   rintro a w141 ⟨Z, X140, y106, hm, hS, hO, h105⟩
   unfold VC43_J2 at hm
   refine region (ePb T hS [(0, Sl a1 l_ c1), (3, I y106), (4, I (wR (y104 + 1)))] fun a hS => ?_)
   exact ⟨⟨y106, wR (y104 + 1)⟩, ⟨Z, _, hm.1, hS.sl _, hO, h105⟩, hm.2⟩
  replace hm := hm.2 hb
  refine wexit (by rfl) ?_
  exact ⟨Z, _, y103, hm, hS.sl _, hO⟩
 rintro a w145 ⟨Z, X144, y101, hm, hS, hO⟩
 unfold VC43_J1 at hm
 refine rPb T hS [(2, I y101)] fun a hS => ?_
 refine wret ?_
 exact fin T hS hO (fun c => c) rfl (r := [.int .i64 y101]) kr (fun X' hM hC => ⟨y101, hm, rfl⟩)
theorem C43 (v : ∀ (l_ : List Api_Event), VC43 l_ (fun r => r = ref25_Kinds l_)) : S43 := by
 intro w X l_ a1 c1   h1
 refine (W43 w X l_ a1 c1   _ (v l_) h1).mono ?_
 rintro _ _ _ _ ⟨r, rfl, h⟩
 exact h
theorem W26 (k41 : S41) (k42 : S42) (k43 : S43) (w0) (X0) (o_ : Api_Object) (l_ : List Api_Event) (a1) (c1) (a2) (c2) (Q : Int -> Prop) (hm : VC26 o_ l_ Q) (h1 : RS tApi_Row w0 X0 a1 o_.Rows c1) (h2 : RS tApi_Event w0 X0 a2 l_ c2) :
  Ret Try.prog 26 #[.agg #[.int .i64 o_.States, .int .i64 o_.Kinds, .int .i64 o_.Init, .slice a1 o_.Rows.length c1], .slice a2 l_.length c2] xnone w0 X0 (fun w X' v => ∃ r, Q r /\ v = .int .i64 r) := by
 unfold VC26 at hm
 replace hm := hm (h1.sm kr)
 replace hm := hm (h2.sm kr)
 refine enter Try.func26 rfl (vals := [.agg #[.int .i64 o_.States, .int .i64 o_.Kinds, .int .i64 o_.Init, .slice a1 o_.Rows.length c1], .slice a2 l_.length c2]) kr ?_
 intro Z a hS hO hM
 replace h1 := h1.m0 hM
 replace h2 := h2.m0 hM
 refine rM T hS ⟨[(1, Sl a2 l_ c2), (2, Pt 3 0)], [(3, (24, (cO o_ a1 c1)))]⟩ fun Z a w118 X119 hS hE hr => ?_
 replace hO := hO.m2 hE
 replace h1 := h1.m1 hE
 replace h2 := h2.m1 hE
 clear hE hr
 refine regO ?_
 refine oPb T hS 1 [(1, Sl a2 l_ c2), (2, Pt 3 0), (8, V (.agg #[.int .i64 o_.States, .int .i64 o_.Kinds, .int .i64 o_.Init, .slice a1 o_.Rows.length c1]))] fun a hS => ?_
 refine op1 (call hS kr kr hb41 kr (fun _ _ => rfl) (k41 _ _ o_ a1 c1 h1) ?_)
 intro v101 a w102 X103 hE hp hS
 replace hO := hO.m2 hE
 replace h1 := h1.m1 hE
 replace h2 := h2.m1 hE
 obtain ⟨r104, hr⟩ : ∃ r, ref23_Check o_ = r := ⟨_, rfl⟩
 replace hm := hm r104 hr
 rw [hr] at hp
 clear hr
 subst hp
 refine ePb T hS [(1, Sl a2 l_ c2), (2, Pt 3 0), (6, I r104.2)] fun a hS => ?_
 refine wseq ?_
 refine rPb T hS [(1, Sl a2 l_ c2), (2, Pt 3 0), (6, I r104.2), (13, B (r104.2 != 0))] fun a hS => ?_
 refine wcond hS (b := (r104.2 != 0)) kr (fun hb => ?_) fun hb => ?_
 ·replace hm := hm.1 hb
  refine rP T hS ⟨[(4, I r104.2)], []⟩ fun a hS => ?_
  refine wret ?_
  exact fin T hS hO (fun c => c) rfl (r := [.int .i64 r104.2]) kr (fun X' hM hC => ⟨r104.2, hm, rfl⟩)
 replace hm := hm.2 hb
 refine wskip ?_
 refine regO ?_
 refine oPb T hS 1 [(1, Sl a2 l_ c2), (2, Pt 3 0), (6, I r104.2), (16, Sl a2 l_ c2)] fun a hS => ?_
 refine op1 (call hS kr kr hb42 kr (fun _ _ => rfl) (k42 _ _ l_ a2 c2 h2) ?_)
 intro v105 a w106 X107 hE hp hS
 replace hO := hO.m2 hE
 replace h1 := h1.m1 hE
 replace h2 := h2.m1 hE
 obtain ⟨r108, hr⟩ : ∃ r, ref25_Check l_ = r := ⟨_, rfl⟩
 replace hm := hm r108 hr
 rw [hr] at hp
 clear hr
 subst hp
 refine ePb T hS [(1, Sl a2 l_ c2), (2, Pt 3 0), (6, I r108.2)] fun a hS => ?_
 refine wseq ?_
 refine wcut (fun a w => ∃ (Z : Nat -> Nat) (X : Nat -> Nat) (y109 : Bool), VC26_J1 Q r108 y109 /\ St Try.f26.ntmps ⟨[(6, I r108.2), (28, B y109)], []⟩ Z a w X /\ Old w0 X0 w X) ?_ ?_
 ·refine drawnX [3] mixed hS ?_
  intro w110 X111 hS hE hD hH
  replace hO := hO.m2 hE
  replace h1 := h1.m1 hE
  replace h2 := h2.m1 hE
  refine tkb T [0, 1, 2] [3] hS hH #[true, true, true, false, false, false, false, false, false] 6 [(1, Sl a2 l_ c2), (2, Pt 3 0), (6, I r108.2), (22, B (r108.2 == 0))] fun a hS => ?_
  rcases bft (r108.2 == 0) with hb | hb
  ·replace hS := hS.lit (t := 22) kr hb
   replace hm := hm.1 hb
   refine tkb T [3, 5, 6] [3] hS hH #[true, true, true, true, false, true, true, false, false] 3 [(6, I r108.2), (22, B true), (23, Sl a2 l_ c2), (26, I o_.Kinds)] fun a hS => ?_
   refine only 4 kr (by rfl) (call hS kr kr hb43 kr (fun _ _ => rfl) (k43 _ _ l_ a2 c2 h2) ?_)
   intro v112 a w113 X114 hE hp hS
   replace hO := hO.m2 hE
   replace hD := hD.ev hE rfl
   replace h1 := h1.m1 hE
   replace h2 := h2.m1 hE
   obtain ⟨r115, hr⟩ : ∃ r, ref25_Kinds l_ = r := ⟨_, rfl⟩
   replace hm := hm r115 hr
   rw [hr] at hp
   clear hr
   subst hp
   replace hS := hS.slb [(6, I r108.2), (22, B true), (23, Sl a2 l_ c2), (26, I o_.Kinds), (24, I r115)]
   refine andH (Hold.of hS (bks := [3]) kr hD) ?_
   intro hH
   refine tkb T [7, 8] [3] hS hH (tts 9) 0 [(6, I r108.2), (28, B (decide (r115 > o_.Kinds)))] fun a hS => ?_
   refine drawnDone kr ?_
   replace hS := hS.sl ⟨[(6, I r108.2), (28, B (decide (r115 > o_.Kinds)))], []⟩
   exact ⟨Z, _, decide (r115 > o_.Kinds), hm, hS.sl _, hO⟩
  replace hS := hS.lit (t := 22) kr hb
  replace hm := hm.2 hb
  refine tkb T [3, 5, 4, 6, 7, 8] [3] hS hH (tts 9) 0 [(6, I r108.2), (28, B false)] fun a hS => ?_
  refine drawnDone kr ?_
  replace hS := hS.sl ⟨[(6, I r108.2), (28, B false)], []⟩
  exact ⟨Z, _, false, hm, hS.sl _, hO⟩
 rintro a w117 ⟨Z, X116, y109, hm, hS, hO⟩
 unfold VC26_J1 at hm
 refine wcond hS (b := y109) kr (fun hb => ?_) fun hb => ?_
 ·replace hm := hm.1 hb
  refine rPb T hS [(4, I 31)] fun a hS => ?_
  refine wret ?_
  exact fin T hS hO (fun c => c) rfl (r := [.int .i64 31]) kr (fun X' hM hC => ⟨31, hm, rfl⟩)
 replace hm := hm.2 hb
 refine wskip ?_
 refine rPb T hS [(4, I r108.2)] fun a hS => ?_
 refine wret ?_
 exact fin T hS hO (fun c => c) rfl (r := [.int .i64 r108.2]) kr (fun X' hM hC => ⟨r108.2, hm, rfl⟩)
theorem C26 (k41 : S41) (k42 : S42) (k43 : S43) (v : ∀ (o_ : Api_Object) (l_ : List Api_Event), VC26 o_ l_ (fun r => r = ref26_Check o_ l_)) : S26 := by
 intro w X o_ l_ a1 c1 a2 c2   h1 h2
 refine (W26 k41 k42 k43 w X o_ l_ a1 c1 a2 c2   _ (v o_ l_) h1 h2).mono ?_
 rintro _ _ _ _ ⟨r, rfl, h⟩
 exact h
theorem W34 (w0) (X0) (a_ : List Api_Row) (b_ : List Api_Row) (a1) (c1) (a2) (c2) (Q : Bool -> Prop) (hm : VC34 a_ b_ Q) (h1 : RS tApi_Row w0 X0 a1 a_ c1) (h2 : RS tApi_Row w0 X0 a2 b_ c2) :
  Ret Try.prog 34 #[.slice a1 a_.length c1, .slice a2 b_.length c2] xnone w0 X0 (fun w X' v => ∃ r, Q r /\ v = .bool r) := by
 unfold VC34 at hm
 replace hm := hm (h1.sm kr)
 replace hm := hm (h2.sm kr)
 refine enter Try.func34 rfl (vals := [.slice a1 a_.length c1, .slice a2 b_.length c2]) kr ?_
 intro Z a hS hO hM
 replace h1 := h1.m0 hM
 replace h2 := h2.m0 hM
 refine rPb T hS [(0, Sl a1 a_ c1), (1, Sl a2 b_ c2)] fun a hS => ?_
 refine wseq ?_
 refine rPb T hS [(0, Sl a1 a_ c1), (1, Sl a2 b_ c2), (10, B ((lN a_) != (lN b_)))] fun a hS => ?_
 refine wcond hS (b := ((lN a_) != (lN b_))) kr (fun hb => ?_) fun hb => ?_
 ·replace hm := hm.1 hb
  refine rPb T hS [(4, B false)] fun a hS => ?_
  refine wret ?_
  exact fin T hS hO (fun c => c) rfl (r := [.bool false]) kr (fun X' hM hC => ⟨false, hm, rfl⟩)
 replace hm := hm.2 hb
 refine wskip ?_
 refine wcut (fun a w => ∃ Z X, VC34_J1 Q /\ St Try.f34.ntmps ⟨[], []⟩ Z a w X /\ Old w0 X0 w X) ?_ ?_
 ·refine rPb T hS [(0, Sl a1 a_ c1), (1, Sl a2 b_ c2), (5, I 0)] fun a hS => ?_
  refine wblock ?_
  obtain ⟨I1, μ1, hm0, hm⟩ := hm
  refine wloop (σ := Int) (fun s a w => ∃ Z X, I1 s /\ St Try.f34.ntmps ⟨[(0, Sl a1 a_ c1), (1, Sl a2 b_ c2), (5, I s)], []⟩ Z a w X /\ Old w0 X0 w X /\ RS tApi_Row w X a1 a_ c1 /\ RS tApi_Row w X a2 b_ c2) (fun s => μ1 s) (0) ?_ ?_
  ·exact ⟨Z, _, hm0, hS.sl _, hO, h1, h2⟩
  rintro y103 a w113 ⟨Z, X112, hI, hS, hO, h101, h102⟩
  replace hm := hm y103 hI
  clear hI hm0
  refine wseq ?_
  refine rPb T hS [(0, Sl a1 a_ c1), (1, Sl a2 b_ c2), (5, I y103), (14, B (decide (y103 < (lN a_))))] fun a hS => ?_
  refine wcond hS (b := decide (y103 < (lN a_))) kr (fun hb => ?_) fun hb => ?_
  ·replace hm := hm.1 hb
   refine wskip (wseq ?_)
   refine wblock ?_
   refine drawnSX [] mixed hS ?_
   intro w104 X105 hS hE hD hH
   replace hO := hO.m2 hE
   replace h101 := h101.m1 hE
   replace h102 := h102.m1 hE
   refine tkb T [0, 1, 4, 5] [] hS hH #[true, true, false, false, true, true, false, false, false] 5 [(0, Sl a1 a_ c1), (1, Sl a2 b_ c2), (5, I y103), (17, Sl a1 a_ c1), (18, I y103), (21, Sl a2 b_ c2), (22, I y103)] fun a hS => ?_
   obtain ⟨hq, hm⟩ := hm
   refine dindex (e := 76) (k := .i64) T 2 hS kr kr kr (by rfl) kr hH kr kr h101 kr kr hq.1 hq.2 ?_
   intro A106 a h107 hS
   have h107b := h107.here
   refine dloadA T 3 hS kr kr kr (by rfl) kr hH kr h107 h107b kr kr ?_
   intro v108 a hv hS
   subst hv
   obtain ⟨hq, hm⟩ := hm
   refine dindex (e := 76) (k := .i64) T 6 hS kr kr kr (by rfl) kr hH kr kr h102 kr kr hq.1 hq.2 ?_
   intro A109 a h110 hS
   have h110b := h110.here
   refine dloadA T 7 hS kr kr kr (by rfl) kr hH kr h110 h110b kr kr ?_
   intro v111 a hv hS
   subst hv
   refine dstructEq (op := .neq) (xs := [.int .i64 ((gi a_ y103).State), .int .i64 ((gi a_ y103).Kind), .int .i64 ((gi a_ y103).Next), .int .i64 ((gi a_ y103).Result)]) (ys := [.int .i64 ((gi b_ y103).State), .int .i64 ((gi b_ y103).Kind), .int .i64 ((gi b_ y103).Next), .int .i64 ((gi b_ y103).Result)]) (r := (((gi a_ y103).State) == ((gi b_ y103).State) && (((gi a_ y103).Kind) == ((gi b_ y103).Kind) && (((gi a_ y103).Next) == ((gi b_ y103).Next) && (((gi a_ y103).Result) == ((gi b_ y103).Result) && true))))) (b := (!(((gi a_ y103).State) == ((gi b_ y103).State) && (((gi a_ y103).Kind) == ((gi b_ y103).Kind) && (((gi a_ y103).Next) == ((gi b_ y103).Next) && (((gi a_ y103).Result) == ((gi b_ y103).Result) && true)))))) 8 T hS kr kr kr (by rfl) kr hH kr kr kr kr kr kr ?_
   intro a hS
   refine drawnDone kr ?_
   replace hS := hS.slb [(0, Sl a1 a_ c1), (1, Sl a2 b_ c2), (5, I y103), (25, B (!(((gi a_ y103).State) == ((gi b_ y103).State) && (((gi a_ y103).Kind) == ((gi b_ y103).Kind) && (((gi a_ y103).Next) == ((gi b_ y103).Next) && (((gi a_ y103).Result) == ((gi b_ y103).Result) && true))))))]
   refine wcond hS (b := (!(((gi a_ y103).State) == ((gi b_ y103).State) && (((gi a_ y103).Kind) == ((gi b_ y103).Kind) && (((gi a_ y103).Next) == ((gi b_ y103).Next) && (((gi a_ y103).Result) == ((gi b_ y103).Result) && true)))))) kr (fun hb => ?_) fun hb => ?_
   ·replace hm := hm.1 hb
    refine rPb T hS [(4, B false)] fun a hS => ?_
    refine wret ?_
    exact fin T hS hO (fun c => c) rfl (r := [.bool false]) kr (fun X' hM hC => ⟨false, hm, rfl⟩)
   replace hm := hm.2 hb
   refine wskip ?_
   refine region (ePb T hS [(0, Sl a1 a_ c1), (1, Sl a2 b_ c2), (5, I (wR (y103 + 1)))] fun a hS => ?_)
   exact ⟨wR (y103 + 1), ⟨Z, _, hm.1, hS.sl _, hO, h101, h102⟩, hm.2⟩
  replace hm := hm.2 hb
  refine wexit (by rfl) ?_
  exact ⟨Z, _, hm, hS.sl _, hO⟩
 rintro a w115 ⟨Z, X114, hm, hS, hO⟩
 unfold VC34_J1 at hm
 refine rPb T hS [(4, B true)] fun a hS => ?_
 refine wret ?_
 exact fin T hS hO (fun c => c) rfl (r := [.bool true]) kr (fun X' hM hC => ⟨true, hm, rfl⟩)
theorem C34 (v : ∀ (a_ : List Api_Row) (b_ : List Api_Row), VC34 a_ b_ (fun r => r = ref23_SameRows a_ b_)) : S34 := by
 intro w X a_ b_ a1 c1 a2 c2   h1 h2
 refine (W34 w X a_ b_ a1 c1 a2 c2   _ (v a_ b_) h1 h2).mono ?_
 rintro _ _ _ _ ⟨r, rfl, h⟩
 exact h
theorem W17 (k34 : S34) (w0) (X0) (a_ : Api_Object) (b_ : Api_Object) (a1) (c1) (a2) (c2) (Q : Bool -> Prop) (hm : VC17 a_ b_ Q) (h1 : RS tApi_Row w0 X0 a1 a_.Rows c1) (h2 : RS tApi_Row w0 X0 a2 b_.Rows c2) :
  Ret Try.prog 17 #[.agg #[.int .i64 a_.States, .int .i64 a_.Kinds, .int .i64 a_.Init, .slice a1 a_.Rows.length c1], .agg #[.int .i64 b_.States, .int .i64 b_.Kinds, .int .i64 b_.Init, .slice a2 b_.Rows.length c2]] xnone w0 X0 (fun w X' v => ∃ r, Q r /\ v = .bool r) := by
 unfold VC17 at hm
 replace hm := hm (h1.sm kr)
 replace hm := hm (h2.sm kr)
 refine enter Try.func17 rfl (vals := [.agg #[.int .i64 a_.States, .int .i64 a_.Kinds, .int .i64 a_.Init, .slice a1 a_.Rows.length c1], .agg #[.int .i64 b_.States, .int .i64 b_.Kinds, .int .i64 b_.Init, .slice a2 b_.Rows.length c2]]) kr ?_
 intro Z a hS hO hM
 replace h1 := h1.m0 hM
 replace h2 := h2.m0 hM
 refine rM T hS ⟨[(2, Pt 3 0), (3, Pt 4 0)], [(3, (24, (cO a_ a1 c1))), (4, (24, (cO b_ a2 c2)))]⟩ fun Z a w105 X106 hS hE hr => ?_
 replace hO := hO.m2 hE
 replace h1 := h1.m1 hE
 replace h2 := h2.m1 hE
 clear hE hr
 refine regO ?_
 refine oPb T hS 20 [(2, Pt 3 0), (3, Pt 4 0), (24, B (((a_.States == b_.States) && (a_.Kinds == b_.Kinds)) && (a_.Init == b_.Init)))] (sp := [10, 17]) fun a hS => ?_
 rcases bft (((a_.States == b_.States) && (a_.Kinds == b_.Kinds)) && (a_.Init == b_.Init)) with hb | hb
 ·replace hS := hS.lit (t := 24) kr hb
  replace hm := hm.1 hb
  refine oP T hS 4 ⟨[(24, B true), (26, Sl a1 a_.Rows c1), (28, Sl a2 b_.Rows c2)], []⟩ fun a hS => ?_
  refine op1 (call hS kr kr hb34 kr (fun _ _ => rfl) (k34 _ _ a_.Rows b_.Rows a1 c1 a2 c2 h1 h2) ?_)
  intro v101 a w102 X103 hE hp hS
  replace hO := hO.m2 hE
  replace h1 := h1.m1 hE
  replace h2 := h2.m1 hE
  obtain ⟨r104, hr⟩ : ∃ r, ref23_SameRows a_.Rows b_.Rows = r := ⟨_, rfl⟩
  replace hm := hm r104 hr
  rw [hr] at hp
  clear hr
  subst hp
  refine ePb T hS [(4, B r104)] fun a hS => ?_
  refine wret ?_
  exact fin T hS hO (fun c => c) rfl (r := [.bool r104]) kr (fun X' hM hC => ⟨r104, hm, rfl⟩)
 replace hS := hS.lit (t := 24) kr hb
 replace hm := hm.2 hb
 refine eP T hS ⟨[(4, B false)], []⟩ fun a hS => ?_
 refine wret ?_
 exact fin T hS hO (fun c => c) rfl (r := [.bool false]) kr (fun X' hM hC => ⟨false, hm, rfl⟩)
theorem C17 (k34 : S34) (v : ∀ (a_ : Api_Object) (b_ : Api_Object), VC17 a_ b_ (fun r => r = ref23_Same a_ b_)) : S17 := by
 intro w X a_ b_ a1 c1 a2 c2   h1 h2
 refine (W17 k34 w X a_ b_ a1 c1 a2 c2   _ (v a_ b_) h1 h2).mono ?_
 rintro _ _ _ _ ⟨r, rfl, h⟩
 exact h
theorem W27 (k42 : S42) (w0) (X0) (l_ : List Api_Event) (a1) (c1) (Q : (List Api_Oper) × Int -> Prop) (hm : VC27 l_ Q) (h1 : RS tApi_Event w0 X0 a1 l_ c1) :
  Ret Try.prog 27 #[.slice a1 l_.length c1] xnone w0 X0 (fun w X' v => ∃ r, Q r /\ ∃ ra1 rc1, v = .tuple #[.slice ra1 r.1.length rc1, .int .i64 r.2] /\ RS tApi_Oper w X' ra1 r.1 rc1) := by
 unfold VC27 at hm
 replace hm := hm (h1.sm kr)
 refine enter Try.func27 rfl (vals := [.slice a1 l_.length c1]) kr ?_
 intro Z a hS hO hM
 replace h1 := h1.m0 hM
 refine rPb T hS [(0, Sl a1 l_ c1)] fun a hS => ?_
 refine regO ?_
 refine oPb T hS 1 [(0, Sl a1 l_ c1), (11, Sl a1 l_ c1)] fun a hS => ?_
 refine op1 (call hS kr kr hb42 kr (fun _ _ => rfl) (k42 _ _ l_ a1 c1 h1) ?_)
 intro v101 a w102 X103 hE hp hS
 replace hO := hO.m2 hE
 replace h1 := h1.m1 hE
 obtain ⟨r104, hr⟩ : ∃ r, ref25_Check l_ = r := ⟨_, rfl⟩
 replace hm := hm r104 hr
 rw [hr] at hp
 clear hr
 subst hp
 refine ePb T hS [(0, Sl a1 l_ c1), (5, I r104.2)] fun a hS => ?_
 refine wseq ?_
 refine rPb T hS [(0, Sl a1 l_ c1), (5, I r104.2), (16, B (r104.2 != 0))] fun a hS => ?_
 refine wcond hS (b := (r104.2 != 0)) kr (fun hb => ?_) fun hb => ?_
 ·replace hm := hm.1 hb
  refine rPb T hS [(2, V (.slice none 0 0)), (3, I r104.2)] fun a hS => ?_
  refine wret ?_
  exact fin T hS hO (fun c => c) rfl (r := [.slice none 0 0, .int .i64 r104.2]) kr (fun X' hM hC => ⟨([], r104.2), hm, none, 0, rfl, RS.empty _ _ _⟩)
 replace hm := hm.2 hb
 refine wskip ?_
 refine rPb T hS [(0, Sl a1 l_ c1), (6, V (.slice none 0 0))] fun a hS => ?_
 refine wcut (fun a w => ∃ (Z : Nat -> Nat) (X : Nat -> Nat) (y105 : List Api_Oper) (a106 : Option Addr) (c107 : Nat), VC27_J1 Q y105 /\ St Try.f27.ntmps ⟨[(6, Sl a106 y105 c107)], []⟩ Z a w X /\ Old w0 X0 w X /\ OS tApi_Oper 61 w X 1003 a106 y105 c107) ?_ ?_
 ·refine rPb T hS [(0, Sl a1 l_ c1), (6, V (.slice none 0 0)), (7, I 0)] fun a hS => ?_
  refine wblock ?_
  obtain ⟨I1, μ1, hm0, hm⟩ := hm
  refine wloop (σ := (List Api_Oper) × Int) (fun s a w => ∃ Z X a113 c114, I1 s.1 s.2 /\ St Try.f27.ntmps ⟨[(0, Sl a1 l_ c1), (6, Sl a113 s.1 c114), (7, I s.2)], []⟩ Z a w X /\ Old w0 X0 w X /\ RS tApi_Event w X a1 l_ c1 /\ OS tApi_Oper 61 w X 1003 a113 s.1 c114) (fun s => μ1 s.1 s.2) (⟨[], 0⟩) ?_ ?_
  ·exact ⟨Z, _, none, 0, hm0, hS.sl _, hO, h1, (OS.nil _ _ _ _ _)⟩
  rintro ⟨y112, y116⟩ a w211 ⟨Z, X210, a113, c114, hI, hS, hO, h111, h115⟩
  replace hm := hm y112 y116 hI
  clear hI hm0
  refine wseq ?_
  refine rPb T hS [(0, Sl a1 l_ c1), (6, Sl a113 y112 c114), (7, I y116), (21, B (decide (y116 < (lN l_))))] fun a hS => ?_
  refine wcond hS (b := decide (y116 < (lN l_))) kr (fun hb => ?_) fun hb => ?_
  ·replace hm := hm.1 hb
   refine wskip ?_
   refine wcut (fun a w => ∃ (Z : Nat -> Nat) (X : Nat -> Nat) (y118 : List Api_Oper) (a119 : Option Addr) (c120 : Nat), VC27_J2 I1 μ1 y112 y116 y118 /\ St Try.f27.ntmps ⟨[(0, Sl a1 l_ c1), (6, Sl a119 y118 c120), (7, I y116)], []⟩ Z a w X /\ Old w0 X0 w X /\ RS tApi_Event w X a1 l_ c1 /\ OS tApi_Oper 61 w X 1003 a119 y118 c120) ?_ ?_
   ·refine wblock ?_
    refine wseq ?_
    refine regO ?_
    refine oPb T hS 2 [(0, Sl a1 l_ c1), (6, Sl a113 y112 c114), (7, I y116), (24, Sl a1 l_ c1), (25, I y116)] fun a hS => ?_
    obtain ⟨hq, hm⟩ := hm
    refine op1 (index (e := 54) (k := .i64) T hS kr kr kr kr h111 kr kr hq.1 hq.2 ?_)
    intro A122 a h123 hS
    refine op1 (fieldA (off := 0) (fsz := 1) (ft := 3) (TF := tI) (y := (gi l_ y116).What) T hS kr kr kr h123 kr kr kr (fun cs h => Api_Event_f0 h) ?_)
    intro A124 a h125 hS
    refine op1 (load1 T hS kr kr kr h125 rfl kr ?_)
    intro v126 a hv hS
    cases hv
    refine ePb T hS [(0, Sl a1 l_ c1), (6, Sl a113 y112 c114), (7, I y116), (29, B (((gi l_ y116).What) != 1))] fun a hS => ?_
    refine wcond hS (b := (((gi l_ y116).What) != 1)) kr (fun hb => ?_) fun hb => ?_
    ·replace hm := hm.1 hb
     refine wexit (by rfl) ?_
     exact ⟨Z, _, y112, a113, c114, hm, hS.sl _, hO, h111, h115⟩
    replace hm := hm.2 hb
    refine wskip ?_
    refine drawnSX [] mixed hS ?_
    intro w127 X128 hS hE hD hH
    replace hO := hO.m2 hE
    replace h111 := h111.m1 hE
    replace h115 := h115.m2 hE
    refine tkb T [0, 1, 5, 6, 10] [] hS hH #[true, true, false, false, false, true, true, false, false, false, true, false, false, false] 9 [(0, Sl a1 l_ c1), (6, Sl a113 y112 c114), (7, I y116), (30, Sl a1 l_ c1), (31, I y116), (35, Sl a1 l_ c1), (36, I y116), (40, I y116)] fun a hS => ?_
    obtain ⟨hq, hm⟩ := hm
    refine dindex (e := 54) (k := .i64) T 2 hS kr kr kr (by rfl) kr hH kr kr h111 kr kr hq.1 hq.2 ?_
    intro A129 a h130 hS
    have h130b := h130.here
    refine dfieldA (off := 1) (fsz := 1) (ft := 3) (TF := tI) (y := (gi l_ y116).Prc) 3 T hS kr kr kr (by rfl) kr hH kr h130 kr kr kr (fun cs h => Api_Event_f1 h) ?_
    intro A131 a h132 hbl hS
    have h132b := h130b
    rw [← hbl] at h132b
    clear hbl
    refine dload1 T 4 hS kr kr kr (by rfl) kr hH kr h132 h132b rfl kr ?_
    intro v133 a hv hS
    cases hv
    obtain ⟨hq, hm⟩ := hm
    refine dindex (e := 54) (k := .i64) T 7 hS kr kr kr (by rfl) kr hH kr kr h111 kr kr hq.1 hq.2 ?_
    intro A134 a h135 hS
    have h135b := h135.here
    refine dfieldA (off := 2) (fsz := 1) (ft := 3) (TF := tI) (y := (gi l_ y116).N) 8 T hS kr kr kr (by rfl) kr hH kr h135 kr kr kr (fun cs h => Api_Event_f2 h) ?_
    intro A136 a h137 hbl hS
    have h137b := h135b
    rw [← hbl] at h137b
    clear hbl
    refine dload1 T 9 hS kr kr kr (by rfl) kr hH kr h137 h137b rfl kr ?_
    intro v138 a hv hS
    cases hv
    refine tkb T [11] [] hS hH #[true, true, true, true, true, true, true, true, true, true, true, true, false, false] 2 [(0, Sl a1 l_ c1), (6, Sl a113 y112 c114), (7, I y116), (41, V (.agg #[.int .i64 ((gi l_ y116).Prc), .int .i64 ((gi l_ y116).N), .int .i64 y116, .int .i64 (-1), .int .i64 (-1)]))] fun a hS => ?_
    replace hS := hS.sl ⟨[(0, Sl a1 l_ c1), (6, Sl a113 y112 c114), (7, I y116), (41, V (.agg #[.int .i64 ((gi l_ y116).Prc), .int .i64 ((gi l_ y116).N), .int .i64 y116, .int .i64 (-1), .int .i64 (-1)]))], []⟩
    refine only 12 kr (by rfl) (box1 T hS kr kr kr (sy' := ⟨[(8, Pt 9 0), (0, Sl a1 l_ c1), (6, Sl a113 y112 c114), (7, I y116), (41, V (.agg #[.int .i64 ((gi l_ y116).Prc), .int .i64 ((gi l_ y116).N), .int .i64 y116, .int .i64 (-1), .int .i64 (-1)]))], [(9, (61, [I 0, I 0, I 0, I 0, I 0]))]⟩) kr ?_)
    intro Z a w139 X140 hS hE hr141
    replace hO := hO.m2 hE
    replace hD := hD.ev hE rfl
    replace h111 := h111.m1 hE
    replace h115 := h115.m2 hE
    replace h130 := h130.m1 hE
    replace h132 := h132.m1 hE
    replace h135 := h135.m1 hE
    replace h137 := h137.m1 hE
    replace hS := hS.sl ⟨[(0, Sl a1 l_ c1), (6, Sl a113 y112 c114), (7, I y116), (41, V (.agg #[.int .i64 ((gi l_ y116).Prc), .int .i64 ((gi l_ y116).N), .int .i64 y116, .int .i64 (-1), .int .i64 (-1)])), (8, Pt 9 0)], [(9, (61, [I 0, I 0, I 0, I 0, I 0]))]⟩
    refine andH ((Hold.of hS (bks := []) kr hD).rho hr141 kr) ?_
    intro hH
    replace hS := hS.sl ⟨[(0, Sl a1 l_ c1), (6, Sl a113 y112 c114), (7, I y116), (41, V (.agg #[.int .i64 ((gi l_ y116).Prc), .int .i64 ((gi l_ y116).N), .int .i64 y116, .int .i64 (-1), .int .i64 (-1)])), (8, Pt 9 0)], [(9, (61, [I 0, I 0, I 0, I 0, I 0]))]⟩
    refine only 13 kr (by rfl) (store1 T hS kr kr (sy' := ⟨[(0, Sl a1 l_ c1), (6, Sl a113 y112 c114), (7, I y116), (41, V (.agg #[.int .i64 ((gi l_ y116).Prc), .int .i64 ((gi l_ y116).N), .int .i64 y116, .int .i64 (-1), .int .i64 (-1)])), (8, Pt 9 0)], [(9, (61, [I ((gi l_ y116).Prc), I ((gi l_ y116).N), I y116, I (-1), I (-1)])), (9, (61, [I 0, I 0, I 0, I 0, I 0]))]⟩) kr ?_)
    intro a w142 X143 hS hE
    replace hO := hO.m2 hE
    replace hD := hD.ev hE rfl
    replace h111 := h111.m1 hE
    replace h115 := h115.m2 hE
    replace h130 := h130.m1 hE
    replace h132 := h132.m1 hE
    replace h135 := h135.m1 hE
    replace h137 := h137.m1 hE
    replace hS := hS.sl ⟨[(0, Sl a1 l_ c1), (6, Sl a113 y112 c114), (7, I y116), (41, V (.agg #[.int .i64 ((gi l_ y116).Prc), .int .i64 ((gi l_ y116).N), .int .i64 y116, .int .i64 (-1), .int .i64 (-1)])), (8, Pt 9 0)], [(9, (61, [I ((gi l_ y116).Prc), I ((gi l_ y116).N), I y116, I (-1), I (-1)]))]⟩
    refine andH ((Hold.of hS (bks := []) kr hD).rho hr141 kr) ?_
    intro hH
    refine drawnDone kr ?_
    replace hS := hS.slb [(0, Sl a1 l_ c1), (6, Sl a113 y112 c114), (7, I y116), (8, Pt 9 0)]
    refine wcut (fun a w => ∃ (Z : Nat -> Nat) (X : Nat -> Nat) (y145 : List Api_Oper) (y149 : Int) (y150 : Int) (y151 : Int) (y152 : Int) (y153 : Int) (a146 : Option Addr) (c147 : Nat), VC27_J3 I1 μ1 y112 y116 y145 y149 y150 y151 y152 y153 /\ St Try.f27.ntmps ⟨[(0, Sl a1 l_ c1), (6, Sl a146 y145 c147), (7, I y116), (8, Pt 9 0)], [(9, (61, [I y149, I y150, I y151, I y152, I y153]))]⟩ Z a w X /\ Old w0 X0 w X /\ RS tApi_Event w X a1 l_ c1 /\ OS tApi_Oper 61 w X 1003 a146 y145 c147) ?_ ?_
    ·refine rPb T hS [(0, Sl a1 l_ c1), (6, Sl a113 y112 c114), (7, I y116), (8, Pt 9 0), (9, I (wR (y116 + 1)))] fun a hS => ?_
     refine wblock ?_
     obtain ⟨I2, μ2, hm0, hm⟩ := hm
     refine wloop (σ := (List Api_Oper) × Int × Int × Int × Int × Int × Int) (fun s a w => ∃ Z X a165 c166, I2 s.1 s.2.1 s.2.2.1 s.2.2.2.1 s.2.2.2.2.1 s.2.2.2.2.2.1 s.2.2.2.2.2.2 /\ St Try.f27.ntmps ⟨[(0, Sl a1 l_ c1), (6, Sl a165 s.1 c166), (7, I y116), (8, Pt 9 0), (9, I s.2.1)], [(9, (61, [I s.2.2.1, I s.2.2.2.1, I s.2.2.2.2.1, I s.2.2.2.2.2.1, I s.2.2.2.2.2.2]))]⟩ Z a w X /\ Old w0 X0 w X /\ RS tApi_Event w X a1 l_ c1 /\ OS tApi_Oper 61 w X 1003 a165 s.1 c166) (fun s => μ2 s.1 s.2.1 s.2.2.1 s.2.2.2.1 s.2.2.2.2.1 s.2.2.2.2.2.1 s.2.2.2.2.2.2) (⟨y112, wR (y116 + 1), (gi l_ y116).Prc, (gi l_ y116).N, y116, (-1), (-1)⟩) ?_ ?_
     ·exact ⟨Z, _, a113, c114, hm0, hS.sl _, hO, h111, h115⟩
     rintro ⟨y164, y168, y169, y170, y171, y172, y173⟩ a w205 ⟨Z, X204, a165, c166, hI, hS, hO, h163, h167⟩
     replace hm := hm y164 y168 y169 y170 y171 y172 y173 hI
     clear hI hm0
     refine wseq ?_
     refine rPb T hS [(0, Sl a1 l_ c1), (6, Sl a165 y164 c166), (7, I y116), (8, Pt 9 0), (9, I y168), (52, B ((decide (y168 < (lN l_))) && (decide (y172 < 0))))] (sp := [48]) fun a hS => ?_
     refine wcond hS (b := ((decide (y168 < (lN l_))) && (decide (y172 < 0)))) kr (fun hb => ?_) fun hb => ?_
     ·replace hm := hm.1 hb
      refine wskip ?_
      refine wcut (fun a w => ∃ (Z : Nat -> Nat) (X : Nat -> Nat) (y175 : List Api_Oper) (y179 : Int) (y180 : Int) (a176 : Option Addr) (c177 : Nat), VC27_J4 I2 μ2 y164 y168 y169 y170 y171 y172 y173 y175 y179 y180 /\ St Try.f27.ntmps ⟨[(0, Sl a1 l_ c1), (6, Sl a176 y175 c177), (7, I y116), (8, Pt 9 0), (9, I y168)], [(9, (61, [I y169, I y170, I y171, I y179, I y180]))]⟩ Z a w X /\ Old w0 X0 w X /\ RS tApi_Event w X a1 l_ c1 /\ OS tApi_Oper 61 w X 1003 a176 y175 c177) ?_ ?_
      ·refine wblock ?_
       refine drawnSX [9] mixed hS ?_
       intro w181 X182 hS hE hD hH
       replace hO := hO.m2 hE
       replace h163 := h163.m1 hE
       replace h167 := h167.m2 hE
       refine tkb T [0, 1, 5, 6] [9] hS hH #[true, true, false, false, false, true, true, false, false, false, false] 7 [(0, Sl a1 l_ c1), (6, Sl a165 y164 c166), (7, I y116), (8, Pt 9 0), (9, I y168), (55, Sl a1 l_ c1), (56, I y168), (60, Sl a1 l_ c1), (61, I y116)] fun a hS => ?_
       obtain ⟨hq, hm⟩ := hm
       refine dindex (e := 54) (k := .i64) T 2 hS kr kr kr (by rfl) kr hH kr kr h163 kr kr hq.1 hq.2 ?_
       intro A183 a h184 hS
       have h184b := h184.here
       refine dfieldA (off := 1) (fsz := 1) (ft := 3) (TF := tI) (y := (gi l_ y168).Prc) 3 T hS kr kr kr (by rfl) kr hH kr h184 kr kr kr (fun cs h => Api_Event_f1 h) ?_
       intro A185 a h186 hbl hS
       have h186b := h184b
       rw [← hbl] at h186b
       clear hbl
       refine dload1 T 4 hS kr kr kr (by rfl) kr hH kr h186 h186b rfl kr ?_
       intro v187 a hv hS
       cases hv
       obtain ⟨hq, hm⟩ := hm
       refine dindex (e := 54) (k := .i64) T 7 hS kr kr kr (by rfl) kr hH kr kr h163 kr kr hq.1 hq.2 ?_
       intro A188 a h189 hS
       have h189b := h189.here
       refine dfieldA (off := 1) (fsz := 1) (ft := 3) (TF := tI) (y := (gi l_ y116).Prc) 8 T hS kr kr kr (by rfl) kr hH kr h189 kr kr kr (fun cs h => Api_Event_f1 h) ?_
       intro A190 a h191 hbl hS
       have h191b := h189b
       rw [← hbl] at h191b
       clear hbl
       refine dload1 T 9 hS kr kr kr (by rfl) kr hH kr h191 h191b rfl kr ?_
       intro v192 a hv hS
       cases hv
       refine tkb T [10] [9] hS hH (tts 11) 0 [(0, Sl a1 l_ c1), (6, Sl a165 y164 c166), (7, I y116), (8, Pt 9 0), (9, I y168), (65, B (((gi l_ y168).Prc) == ((gi l_ y116).Prc)))] fun a hS => ?_
       refine drawnDone kr ?_
       replace hS := hS.slb [(0, Sl a1 l_ c1), (6, Sl a165 y164 c166), (7, I y116), (8, Pt 9 0), (9, I y168), (65, B (((gi l_ y168).Prc) == ((gi l_ y116).Prc)))]
       refine wcond hS (b := (((gi l_ y168).Prc) == ((gi l_ y116).Prc))) kr (fun hb => ?_) fun hb => ?_
       ·replace hm := hm.1 hb
        refine rM T hS ⟨[(0, Sl a1 l_ c1), (6, Sl a165 y164 c166), (7, I y116), (8, Pt 9 0), (9, I y168)], [(9, (61, [I y169, I y170, I y171, I y168, I y173]))]⟩ fun Z a w200 X201 hS hE hr => ?_
        replace hO := hO.m2 hE
        replace h163 := h163.m1 hE
        replace h167 := h167.m2 hE
        clear hE hr
        refine region ?_
        refine oPb T hS 2 [(0, Sl a1 l_ c1), (6, Sl a165 y164 c166), (7, I y116), (8, Pt 9 0), (9, I y168), (68, Sl a1 l_ c1), (69, I y168)] fun a hS => ?_
        obtain ⟨hq, hm⟩ := hm
        refine op1 (index (e := 54) (k := .i64) T hS kr kr kr kr h163 kr kr hq.1 hq.2 ?_)
        intro A193 a h194 hS
        refine op1 (fieldA (off := 2) (fsz := 1) (ft := 3) (TF := tI) (y := (gi l_ y168).N) T hS kr kr kr h194 kr kr kr (fun cs h => Api_Event_f2 h) ?_)
        intro A195 a h196 hS
        refine op1 (load1 T hS kr kr kr h196 rfl kr ?_)
        intro v197 a hv hS
        cases hv
        refine eM T hS ⟨[(0, Sl a1 l_ c1), (6, Sl a165 y164 c166), (7, I y116), (8, Pt 9 0), (9, I y168)], [(9, (61, [I y169, I y170, I y171, I y168, I ((gi l_ y168).N)]))]⟩ fun Z a w198 X199 hS hE hr => ?_
        replace hO := hO.m2 hE
        replace h163 := h163.m1 hE
        replace h167 := h167.m2 hE
        clear hE hr
        exact ⟨Z, _, y164, y168, (gi l_ y168).N, a165, c166, hm, hS.sl _, hO, h163, h167⟩
       replace hm := hm.2 hb
       refine wskip ?_
       exact ⟨Z, _, y164, y172, y173, a165, c166, hm, hS.sl _, hO, h163, h167⟩
      rintro a w203 ⟨Z, X202, y175, y179, y180, a176, c177, hm, hS, hO, h174, h178⟩
      unfold VC27_J4 at hm
      refine region (ePb T hS [(0, Sl a1 l_ c1), (6, Sl a176 y175 c177), (7, I y116), (8, Pt 9 0), (9, I (wR (y168 + 1)))] fun a hS => ?_)
      exact ⟨⟨y175, wR (y168 + 1), y169, y170, y171, y179, y180⟩, ⟨Z, _, a176, c177, hm.1, hS.sl _, hO, h174, h178⟩, hm.2⟩
     replace hm := hm.2 hb
     refine wexit (by rfl) ?_
     exact ⟨Z, _, y164, y169, y170, y171, y172, y173, a165, c166, hm, hS.sl _, hO, h163, h167⟩
    rintro a w207 ⟨Z, X206, y145, y149, y150, y151, y152, y153, a146, c147, hm, hS, hO, h144, h148⟩
    unfold VC27_J3 at hm
    refine region ?_
    refine oP T hS 2 ⟨[(0, Sl a1 l_ c1), (6, Sl a146 y145 c147), (7, I y116), (74, Sl a146 y145 c147), (75, V (.agg #[.int .i64 y149, .int .i64 y150, .int .i64 y151, .int .i64 y152, .int .i64 y153]))], []⟩ fun a hS => ?_
    refine op1 (lit (E := 61) (col := 0) (T := tApi_Oper) (vals := [.agg #[.int .i64 y149, .int .i64 y150, .int .i64 y151, .int .i64 y152, .int .i64 y153]]) (ys := [(⟨y149, y150, y151, y152, y153⟩ : Api_Oper)]) T hS kr kr kr kr (by exact ⟨rfl, trivial⟩) rfl kr kr kr kr ?_)
    intro b154 a w155 X156 hE h157 hN hS
    clear hN
    replace hO := hO.m2 hE
    replace h144 := h144.m1 hE
    replace h148 := h148.m2 hE
    replace h157 := h157.rs0
    obtain ⟨hq, hm⟩ := hm
    obtain ⟨news, hN⟩ := h157.src
    refine op1 (append (E := 61) (T := tApi_Oper) (col := 1003) (xs := y145) T hS kr kr kr kr h148 hN kr kr kr kr hq ?_)
    intro a161 c162 a w158 X159 hE h160 hS
    clear hq hN
    clear h148
    replace hO := hO.m2 hE
    replace h144 := h144.m1 hE
    replace h157 := h157.m1 hE
    refine ePb T hS [(0, Sl a1 l_ c1), (6, Sl a161 (y145 ++ [(⟨y149, y150, y151, y152, y153⟩ : Api_Oper)]) c162), (7, I y116)] fun a hS => ?_
    exact ⟨Z, _, y145 ++ [(⟨y149, y150, y151, y152, y153⟩ : Api_Oper)], a161, c162, hm, hS.sl _, hO, h144, h160⟩
   rintro a w209 ⟨Z, X208, y118, a119, c120, hm, hS, hO, h117, h121⟩
   unfold VC27_J2 at hm
   refine region (ePb T hS [(0, Sl a1 l_ c1), (6, Sl a119 y118 c120), (7, I (wR (y116 + 1)))] fun a hS => ?_)
   exact ⟨⟨y118, wR (y116 + 1)⟩, ⟨Z, _, a119, c120, hm.1, hS.sl _, hO, h117, h121⟩, hm.2⟩
  replace hm := hm.2 hb
  refine wexit (by rfl) ?_
  exact ⟨Z, _, y112, a113, c114, hm, hS.sl _, hO, h115⟩
 rintro a w213 ⟨Z, X212, y105, a106, c107, hm, hS, hO, h108⟩
 unfold VC27_J1 at hm
 refine rPb T hS [(2, Sl a106 y105 c107), (3, I 0)] fun a hS => ?_
 refine wret ?_
 obtain ⟨X109, hE, hF⟩ := h108.freeze (by decide)
 replace hS := hS.ev hE (xone_box kr)
 replace hO := hO.m2 hE
 have h110 := hF; clear hE hF
 exact fin T hS hO (fun c => c) rfl (r := [.slice a106 y105.length c107, .int .i64 0]) kr (fun X' hM hC => ⟨(y105, 0), hm, a106, c107, rfl, h110.m0 hM⟩)
theorem C27 (k42 : S42) (v : ∀ (l_ : List Api_Event), VC27 l_ (fun r => r = ref27_Of l_)) : S27 := by
 intro w X l_ a1 c1   h1
 refine (W27 k42 w X l_ a1 c1   _ (v l_) h1).mono ?_
 rintro _ _ _ _ ⟨r, rfl, h⟩
 exact h
theorem W11 (k26 : S26) (k27 : S27) (k28 : S28) (k29 : S29) (w0) (X0) (o_ : Api_Object) (l_ : List Api_Event) (a1) (c1) (a2) (c2) (Q : Bool × Int -> Prop) (hm : VC11 o_ l_ Q) (h1 : RS tApi_Row w0 X0 a1 o_.Rows c1) (h2 : RS tApi_Event w0 X0 a2 l_ c2) :
  Ret Try.prog 11 #[.agg #[.int .i64 o_.States, .int .i64 o_.Kinds, .int .i64 o_.Init, .slice a1 o_.Rows.length c1], .slice a2 l_.length c2] xnone w0 X0 (fun w X' v => ∃ r, Q r /\ v = .tuple #[.bool r.1, .int .i64 r.2]) := by
 unfold VC11 at hm
 replace hm := hm (h1.sm kr)
 replace hm := hm (h2.sm kr)
 refine enter Try.func11 rfl (vals := [.agg #[.int .i64 o_.States, .int .i64 o_.Kinds, .int .i64 o_.Init, .slice a1 o_.Rows.length c1], .slice a2 l_.length c2]) kr ?_
 intro Z a hS hO hM
 replace h1 := h1.m0 hM
 replace h2 := h2.m0 hM
 refine rM T hS ⟨[(1, Sl a2 l_ c2), (2, Pt 3 0)], [(3, (24, (cO o_ a1 c1)))]⟩ fun Z a w123 X124 hS hE hr => ?_
 replace hO := hO.m2 hE
 replace h1 := h1.m1 hE
 replace h2 := h2.m1 hE
 clear hE hr
 refine regO ?_
 refine oPb T hS 2 [(1, Sl a2 l_ c2), (2, Pt 3 0), (9, V (.agg #[.int .i64 o_.States, .int .i64 o_.Kinds, .int .i64 o_.Init, .slice a1 o_.Rows.length c1])), (10, Sl a2 l_ c2)] fun a hS => ?_
 refine op1 (call hS kr kr hb26 kr (fun _ _ => rfl) (k26 _ _ o_ l_ a1 c1 a2 c2 h1 h2) ?_)
 intro v101 a w102 X103 hE hp hS
 replace hO := hO.m2 hE
 replace h1 := h1.m1 hE
 replace h2 := h2.m1 hE
 obtain ⟨r104, hr⟩ : ∃ r, ref26_Check o_ l_ = r := ⟨_, rfl⟩
 replace hm := hm r104 hr
 rw [hr] at hp
 clear hr
 subst hp
 refine ePb T hS [(1, Sl a2 l_ c2), (2, Pt 3 0), (6, I r104)] fun a hS => ?_
 refine wseq ?_
 refine rPb T hS [(1, Sl a2 l_ c2), (2, Pt 3 0), (6, I r104), (13, B (r104 != 0))] fun a hS => ?_
 refine wcond hS (b := (r104 != 0)) kr (fun hb => ?_) fun hb => ?_
 ·replace hm := hm.1 hb
  refine rP T hS ⟨[(4, B false), (5, I r104)], []⟩ fun a hS => ?_
  refine wret ?_
  exact fin T hS hO (fun c => c) rfl (r := [.bool false, .int .i64 r104]) kr (fun X' hM hC => ⟨(false, r104), hm, rfl⟩)
 replace hm := hm.2 hb
 refine wskip ?_
 refine regO ?_
 refine oPb T hS 1 [(2, Pt 3 0), (16, Sl a2 l_ c2)] fun a hS => ?_
 refine op1 (call hS kr kr hb27 kr (fun _ _ => rfl) (k27 _ _ l_ a2 c2 h2) ?_)
 intro v105 a w106 X107 hE hp hS
 replace hO := hO.m2 hE
 replace h1 := h1.m1 hE
 replace h2 := h2.m1 hE
 obtain ⟨a109, c110, hp, h111⟩ := hp
 obtain ⟨r108, hr⟩ : ∃ r, ref27_Of l_ = r := ⟨_, rfl⟩
 replace hm := hm r108 hr
 rw [hr] at hp h111
 clear hr
 subst hp
 replace hm := hm (h111.sm kr)
 refine ePb T hS [(2, Pt 3 0), (7, Sl a109 r108.1 c110)] fun a hS => ?_
 refine regO ?_
 refine oPb T hS 2 [(2, Pt 3 0), (7, Sl a109 r108.1 c110), (20, V (.agg #[.int .i64 o_.States, .int .i64 o_.Kinds, .int .i64 o_.Init, .slice a1 o_.Rows.length c1])), (21, Sl a109 r108.1 c110)] fun a hS => ?_
 refine op1 (call hS kr kr hb28 kr (fun _ _ => rfl) (k28 _ _ o_ r108.1 20 a1 c1 a109 c110 h1 h111) ?_)
 intro v112 a w113 X114 hE hp hS
 replace hO := hO.m2 hE
 replace h1 := h1.m1 hE
 replace h111 := h111.m1 hE
 obtain ⟨r115, hr⟩ : ∃ r, ref30_Check o_ r108.1 20 = r := ⟨_, rfl⟩
 replace hm := hm r115 hr
 rw [hr] at hp
 clear hr
 subst hp
 refine ePb T hS [(2, Pt 3 0), (6, I r115), (7, Sl a109 r108.1 c110)] fun a hS => ?_
 refine wseq ?_
 refine rPb T hS [(2, Pt 3 0), (6, I r115), (7, Sl a109 r108.1 c110), (24, B (r115 != 0))] fun a hS => ?_
 refine wcond hS (b := (r115 != 0)) kr (fun hb => ?_) fun hb => ?_
 ·replace hm := hm.1 hb
  refine rP T hS ⟨[(4, B false), (5, I r115)], []⟩ fun a hS => ?_
  refine wret ?_
  exact fin T hS hO (fun c => c) rfl (r := [.bool false, .int .i64 r115]) kr (fun X' hM hC => ⟨(false, r115), hm, rfl⟩)
 replace hm := hm.2 hb
 refine wskip ?_
 refine regO ?_
 refine oP T hS 2 ⟨[(26, V (.agg #[.int .i64 o_.States, .int .i64 o_.Kinds, .int .i64 o_.Init, .slice a1 o_.Rows.length c1])), (27, Sl a109 r108.1 c110)], []⟩ fun a hS => ?_
 obtain ⟨hq, hm⟩ := hm
 refine op1 (call hS kr kr hb29 kr (fun _ _ => rfl) (k29 _ _ o_ r108.1 a1 c1 a109 c110 hq h1 h111) ?_)
 intro v116 a w117 X118 hE hp hS
 replace hO := hO.m2 hE
 replace h1 := h1.m1 hE
 replace h111 := h111.m1 hE
 obtain ⟨a120, c121, hp, h122⟩ := hp
 obtain ⟨r119, hr⟩ : ∃ r, ref30_All o_ r108.1 = r := ⟨_, rfl⟩
 replace hm := hm r119 hr
 rw [hr] at hp h122
 clear hr
 subst hp
 replace hm := hm (h122.sm kr)
 refine ePb T hS [(4, B (decide ((lN r119) > 0))), (5, I 0)] fun a hS => ?_
 refine wret ?_
 exact fin T hS hO (fun c => c) rfl (r := [.bool (decide ((lN r119) > 0)), .int .i64 0]) kr (fun X' hM hC => ⟨(decide ((lN r119) > 0), 0), hm, rfl⟩)
theorem C11 (k26 : S26) (k27 : S27) (k28 : S28) (k29 : S29) (v : ∀ (o_ : Api_Object) (l_ : List Api_Event), preRL o_ l_ -> VC11 o_ l_ (fun r => r = ref41_Lin o_ l_)) : S11 := by
 intro w X o_ l_ a1 c1 a2 c2   hp h1 h2
 refine (W11 k26 k27 k28 k29 w X o_ l_ a1 c1 a2 c2   _ (v o_ l_ hp) h1 h2).mono ?_
 rintro _ _ _ _ ⟨r, rfl, h⟩
 exact h
theorem W13 (k11 : S11) (w0) (X0) (o_ : Api_Object) (l_ : List Api_Event) (a1) (c1) (a2) (c2) (Q : Int × Int -> Prop) (hm : VC13 o_ l_ Q) (h1 : RS tApi_Row w0 X0 a1 o_.Rows c1) (h2 : RS tApi_Event w0 X0 a2 l_ c2) :
  Ret Try.prog 13 #[.agg #[.int .i64 o_.States, .int .i64 o_.Kinds, .int .i64 o_.Init, .slice a1 o_.Rows.length c1], .slice a2 l_.length c2] xnone w0 X0 (fun w X' v => ∃ r, Q r /\ v = .tuple #[.int .i64 r.1, .int .i64 r.2]) := by
 unfold VC13 at hm
 replace hm := hm (h1.sm kr)
 replace hm := hm (h2.sm kr)
 refine enter Try.func13 rfl (vals := [.agg #[.int .i64 o_.States, .int .i64 o_.Kinds, .int .i64 o_.Init, .slice a1 o_.Rows.length c1], .slice a2 l_.length c2]) kr ?_
 intro Z a hS hO hM
 replace h1 := h1.m0 hM
 replace h2 := h2.m0 hM
 refine rM T hS ⟨[(1, Sl a2 l_ c2), (2, Pt 3 0)], [(3, (24, (cO o_ a1 c1)))]⟩ fun Z a w122 X123 hS hE hr => ?_
 replace hO := hO.m2 hE
 replace h1 := h1.m1 hE
 replace h2 := h2.m1 hE
 clear hE hr
 refine regO ?_
 refine oPb T hS 2 [(1, Sl a2 l_ c2), (2, Pt 3 0), (12, V (.agg #[.int .i64 o_.States, .int .i64 o_.Kinds, .int .i64 o_.Init, .slice a1 o_.Rows.length c1])), (13, Sl a2 l_ c2)] fun a hS => ?_
 obtain ⟨hq, hm⟩ := hm
 refine op1 (call hS kr kr hb11 kr (fun _ _ => rfl) (k11 _ _ o_ l_ a1 c1 a2 c2 hq h1 h2) ?_)
 intro v101 a w102 X103 hE hp hS
 replace hO := hO.m2 hE
 replace h1 := h1.m1 hE
 replace h2 := h2.m1 hE
 obtain ⟨r104, hr⟩ : ∃ r, ref41_Lin o_ l_ = r := ⟨_, rfl⟩
 replace hm := hm r104 hr
 rw [hr] at hp
 clear hr
 subst hp
 refine ePb T hS [(1, Sl a2 l_ c2), (2, Pt 3 0), (6, B r104.1), (7, I r104.2)] fun a hS => ?_
 refine wseq ?_
 refine rPb T hS [(1, Sl a2 l_ c2), (2, Pt 3 0), (6, B r104.1), (7, I r104.2), (18, B (r104.2 != 0))] fun a hS => ?_
 refine wcond hS (b := (r104.2 != 0)) kr (fun hb => ?_) fun hb => ?_
 ·replace hm := hm.1 hb
  refine rP T hS ⟨[(4, I 0), (5, I r104.2)], []⟩ fun a hS => ?_
  refine wret ?_
  exact fin T hS hO (fun c => c) rfl (r := [.int .i64 0, .int .i64 r104.2]) kr (fun X' hM hC => ⟨(0, r104.2), hm, rfl⟩)
 replace hm := hm.2 hb
 refine wskip (wseq ?_)
 refine rPb T hS [(1, Sl a2 l_ c2), (2, Pt 3 0), (20, B r104.1)] fun a hS => ?_
 refine wcond hS (b := r104.1) kr (fun hb => ?_) fun hb => ?_
 ·replace hm := hm.1 hb
  refine rP T hS ⟨[(4, I 0), (5, I 41)], []⟩ fun a hS => ?_
  refine wret ?_
  exact fin T hS hO (fun c => c) rfl (r := [.int .i64 0, .int .i64 41]) kr (fun X' hM hC => ⟨(0, 41), hm, rfl⟩)
 replace hm := hm.2 hb
 refine wskip ?_
 refine wcut (fun a w => ∃ Z X, VC13_J1 l_ Q /\ St Try.f13.ntmps ⟨[(1, Sl a2 l_ c2)], []⟩ Z a w X /\ Old w0 X0 w X /\ RS tApi_Event w X a2 l_ c2) ?_ ?_
 ·refine rPb T hS [(1, Sl a2 l_ c2), (2, Pt 3 0), (8, I 0)] fun a hS => ?_
  refine wblock ?_
  obtain ⟨I1, μ1, hm0, hm⟩ := hm
  refine wloop (σ := Int) (fun s a w => ∃ Z X, I1 s /\ St Try.f13.ntmps ⟨[(1, Sl a2 l_ c2), (2, Pt 3 0), (8, I s)], [(3, (24, (cO o_ a1 c1)))]⟩ Z a w X /\ Old w0 X0 w X /\ RS tApi_Event w X a2 l_ c2 /\ RS tApi_Row w X a1 o_.Rows c1) (fun s => μ1 s) (0) ?_ ?_
  ·exact ⟨Z, _, hm0, hS.sl _, hO, h2, h1⟩
  rintro y107 a w119 ⟨Z, X118, hI, hS, hO, h106, h108⟩
  replace hm := hm y107 hI
  clear hI hm0
  refine wseq ?_
  refine rPb T hS [(1, Sl a2 l_ c2), (2, Pt 3 0), (8, I y107), (24, B (decide (y107 < (lN l_))))] fun a hS => ?_
  refine wcond hS (b := decide (y107 < (lN l_))) kr (fun hb => ?_) fun hb => ?_
  ·replace hm := hm.1 hb
   refine wskip (wseq ?_)
   refine wblock ?_
   refine drawnSX [3] mixed hS ?_
   intro w109 X110 hS hE hD hH
   replace hO := hO.m2 hE
   replace h106 := h106.m1 hE
   replace h108 := h108.m1 hE
   refine tkb T [0, 1, 2] [3] hS hH #[true, true, true, false, false, false, false, false, false, false] 7 [(1, Sl a2 l_ c2), (2, Pt 3 0), (8, I y107), (28, V (.agg #[.int .i64 o_.States, .int .i64 o_.Kinds, .int .i64 o_.Init, .slice a1 o_.Rows.length c1])), (29, Sl a2 l_ c2), (30, I y107)] fun a hS => ?_
   obtain ⟨hq, hm⟩ := hm
   refine dslice0 (E := 54) (kh := .i64) T 3 hS kr kr kr (by rfl) kr hH kr kr h106 kr kr hq.1 hq.2 ?_
   intro a111 c112 a h113 hS
   obtain ⟨hq, hm⟩ := hm
   refine only 4 kr (by rfl) (call hS kr kr hb11 kr (fun _ _ => rfl) (k11 _ _ o_ (l_.take y107.toNat) a1 c1 a111 c112 hq h108 h113) ?_)
   intro v114 a w115 X116 hE hp hS
   replace hO := hO.m2 hE
   replace hD := hD.ev hE rfl
   replace h106 := h106.m1 hE
   replace h108 := h108.m1 hE
   replace h113 := h113.m1 hE
   obtain ⟨r117, hr⟩ : ∃ r, ref41_Lin o_ (l_.take y107.toNat) = r := ⟨_, rfl⟩
   replace hm := hm r117 hr
   rw [hr] at hp
   clear hr
   subst hp
   replace hS := hS.slb [(1, Sl a2 l_ c2), (2, Pt 3 0), (8, I y107), (28, V (.agg #[.int .i64 o_.States, .int .i64 o_.Kinds, .int .i64 o_.Init, .slice a1 o_.Rows.length c1])), (29, Sl a2 l_ c2), (30, I y107), (31, Sl a111 (l_.take y107.toNat) c112), (32, V (.tuple #[.bool r117.1, .int .i64 r117.2]))]
   refine andH (Hold.of hS (bks := [3]) kr hD) ?_
   intro hH
   refine tkb T [5, 6, 7, 8, 9] [3] hS hH (tts 10) 0 [(1, Sl a2 l_ c2), (2, Pt 3 0), (8, I y107), (9, B r117.1)] fun a hS => ?_
   refine drawnDone kr ?_
   replace hS := hS.slb [(1, Sl a2 l_ c2), (2, Pt 3 0), (8, I y107), (9, B r117.1)]
   refine rPb T hS [(1, Sl a2 l_ c2), (2, Pt 3 0), (8, I y107), (36, B (!r117.1))] fun a hS => ?_
   refine wcond hS (b := (!r117.1)) kr (fun hb => ?_) fun hb => ?_
   ·replace hm := hm.1 hb
    refine rP T hS ⟨[(4, I y107), (5, I 0)], []⟩ fun a hS => ?_
    refine wret ?_
    exact fin T hS hO (fun c => c) rfl (r := [.int .i64 y107, .int .i64 0]) kr (fun X' hM hC => ⟨(y107, 0), hm, rfl⟩)
   replace hm := hm.2 hb
   refine wskip ?_
   refine region (ePb T hS [(1, Sl a2 l_ c2), (2, Pt 3 0), (8, I (wR (y107 + 1)))] fun a hS => ?_)
   exact ⟨wR (y107 + 1), ⟨Z, _, hm.1, hS.sl _, hO, h106, h108⟩, hm.2⟩
  replace hm := hm.2 hb
  refine wexit (by rfl) ?_
  exact ⟨Z, _, hm, hS.sl _, hO, h106⟩
 rintro a w121 ⟨Z, X120, hm, hS, hO, h105⟩
 unfold VC13_J1 at hm
 refine rPb T hS [(4, I (lN l_)), (5, I 0)] fun a hS => ?_
 refine wret ?_
 exact fin T hS hO (fun c => c) rfl (r := [.int .i64 (lN l_), .int .i64 0]) kr (fun X' hM hC => ⟨((lN l_), 0), hm, rfl⟩)
theorem C13 (k11 : S11) (v : ∀ (o_ : Api_Object) (l_ : List Api_Event), preRL o_ l_ -> VC13 o_ l_ (fun r => r = ref41_Head o_ l_)) : S13 := by
 intro w X o_ l_ a1 c1 a2 c2   hp h1 h2
 refine (W13 k11 w X o_ l_ a1 c1 a2 c2   _ (v o_ l_ hp) h1 h2).mono ?_
 rintro _ _ _ _ ⟨r, rfl, h⟩
 exact h
end Go.Proofs.Ytojdelnnjhbgbaa
