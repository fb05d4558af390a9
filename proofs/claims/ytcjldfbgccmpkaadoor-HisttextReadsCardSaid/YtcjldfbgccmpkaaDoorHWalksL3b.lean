/- Walks: each function returns what its condition asks. Condition: the contracts of its callees, handed in. -/
import Derived.Test.YtcjldfbgccmpkaaDoorHWalksS
set_option linter.all false
namespace Go.Proofs.YtcjldfbgccmpkaaDoor
open Go Go.Sv
set_option maxHeartbeats 1000000
/-- replevin/replevinref25.Open -/
theorem W48 (k68 : S68) (w0 : World) (χ0 : Nat → Nat) (l_ : List Api_Event) (a1 : Option Addr) (c1 : Nat) (Q : (List Int) → Prop) (hm : VC48 l_ Q) (h1 : RS tApi_Event w0 χ0 a1 l_ c1) :
  Ret Tryd.prog 48 #[.slice a1 l_.length c1] xnone w0 χ0 (fun w χ' v => ∃ r, Q r ∧ ∃ (ra1 : Option Addr) (rc1 : Nat), v = .slice ra1 r.length rc1 ∧ RS tI w χ' ra1 r rc1) := by
 unfold VC48 at hm
 replace hm := hm (h1.sm kr)
 refine enter Tryd.func48 rfl (vals := [.slice a1 l_.length c1]) kr ?_
 intro ρ a hS hO hM
 replace h1 := h1.m0 hM
 clear hM
 refine rP T hS ⟨[(0, Sl a1 l_ c1)], []⟩ fun a hS => ?_
 refine rP T hS ⟨[(0, Sl a1 l_ c1), (3, V (.slice none 0 0))], []⟩ fun a hS => ?_
 refine wcut (fun a w => ∃ (ρ : Nat → Nat) (χ : Nat → Nat) (out_101 : List Int) (a102 : Option Addr) (c103 : Nat), VC48_J1 Q out_101 ∧ St Tryd.f48.ntmps ⟨[(3, Sl a102 out_101 c103)], []⟩ ρ a w χ ∧ Old w0 χ0 w χ ∧ OS tI 3 w χ 1003 a102 out_101 c103) ?_ ?_
 ·refine rP T hS ⟨[(0, Sl a1 l_ c1), (3, V (.slice none 0 0)), (4, I 0)], []⟩ fun a hS => ?_
  refine wblock ?_
  obtain ⟨I1, μ1, hm0, hm⟩ := hm
  refine wloop (σ := (List Int) × Int) (fun s a w => ∃ (ρ : Nat → Nat) (χ : Nat → Nat) (a109 : Option Addr) (c110 : Nat), I1 s.1 s.2 ∧ St Tryd.f48.ntmps ⟨[(0, Sl a1 l_ c1), (3, Sl a109 s.1 c110), (4, I s.2)], []⟩ ρ a w χ ∧ Old w0 χ0 w χ ∧ RS tApi_Event w χ a1 l_ c1 ∧ OS tI 3 w χ 1003 a109 s.1 c110) (fun s => μ1 s.1 s.2) (⟨[], 0⟩) ?_ ?_
  ·exact ⟨ρ, _, none, 0, hm0, hS.sl _, hO, h1, (OS.nil _ _ _ _ _)⟩
  ·rintro ⟨out_108, i_112⟩ a w298 ⟨ρ, χ297, a109, c110, hI, hS, hO, h107, h111⟩
   replace hm := hm out_108 i_112 hI
   clear hI hm0
   refine wseq ?_
   refine rP T hS ⟨[(0, Sl a1 l_ c1), (3, Sl a109 out_108 c110), (4, I i_112), (10, B (decide (i_112 < ((l_.length : Nat) : Int))))], []⟩ fun a hS => ?_
   refine wcond hS (b := decide (i_112 < ((l_.length : Nat) : Int))) kr (fun hb => ?_) (fun hb => ?_)
   ·replace hm := hm.1 hb
    refine wskip ?_
    refine wcut (fun a w => ∃ (ρ : Nat → Nat) (χ : Nat → Nat) (out_114 : List Int) (a115 : Option Addr) (c116 : Nat), VC48_J2 I1 μ1 out_108 i_112 out_114 ∧ St Tryd.f48.ntmps ⟨[(0, Sl a1 l_ c1), (3, Sl a115 out_114 c116), (4, I i_112)], []⟩ ρ a w χ ∧ Old w0 χ0 w χ ∧ RS tApi_Event w χ a1 l_ c1 ∧ OS tI 3 w χ 1003 a115 out_114 c116) ?_ ?_
    ·refine wblock ?_
     refine regO ?_
     refine oP T hS 2 ⟨[(0, Sl a1 l_ c1), (3, Sl a109 out_108 c110), (4, I i_112), (13, Sl a1 l_ c1), (14, I i_112)], []⟩ fun a hS => ?_
     obtain ⟨hq, hm⟩ := hm
     refine op1 (index (e := 51) (k := .i64) T hS kr kr kr kr h107 kr kr hq.1 hq.2 ?_)
     intro A118 a h119 hS
     clear hq
     refine op1 (fieldA (off := 1) (fsz := 1) (ft := 3) (TF := tI) (y := (gi l_ i_112).Prc) T hS kr kr kr h119 kr kr kr (fun cs h => Api_Event_f1 h) ?_)
     intro A120 a h121 hS
     refine op1 (load1 T hS kr kr kr h121 rfl kr ?_)
     intro v122 a hv hS
     cases hv
     refine eP T hS ⟨[(0, Sl a1 l_ c1), (3, Sl a109 out_108 c110), (4, I i_112), (5, I ((gi l_ i_112).Prc))], []⟩ fun a hS => ?_
     refine wseq ?_
     refine wcut (fun a w => ∃ (ρ : Nat → Nat) (χ : Nat → Nat) (out_124 : List Int) (x_128 : Bool) (a125 : Option Addr) (c126 : Nat), VC48_J3 l_ I1 μ1 out_108 i_112 out_124 x_128 ∧ St Tryd.f48.ntmps ⟨[(0, Sl a1 l_ c1), (3, Sl a125 out_124 c126), (4, I i_112), (5, I ((gi l_ i_112).Prc)), (30, B x_128)], []⟩ ρ a w χ ∧ Old w0 χ0 w χ ∧ RS tApi_Event w χ a1 l_ c1 ∧ OS tI 3 w χ 1003 a125 out_124 c126) ?_ ?_
     ·refine region ?_
      refine oP T hS 2 ⟨[(0, Sl a1 l_ c1), (3, Sl a109 out_108 c110), (4, I i_112), (5, I ((gi l_ i_112).Prc)), (18, Sl a1 l_ c1), (19, I i_112)], []⟩ fun a hS => ?_
      obtain ⟨hq, hm⟩ := hm
      refine op1 (index (e := 51) (k := .i64) T hS kr kr kr kr h107 kr kr hq.1 hq.2 ?_)
      intro A284 a h285 hS
      clear hq
      refine op1 (fieldA (off := 0) (fsz := 1) (ft := 3) (TF := tI) (y := (gi l_ i_112).What) T hS kr kr kr h285 kr kr kr (fun cs h => Api_Event_f0 h) ?_)
      intro A286 a h287 hS
      refine op1 (load1 T hS kr kr kr h287 rfl kr ?_)
      intro v288 a hv hS
      cases hv
      refine oP T hS 2 ⟨[(0, Sl a1 l_ c1), (3, Sl a109 out_108 c110), (4, I i_112), (5, I ((gi l_ i_112).Prc)), (24, B (((gi l_ i_112).What) != 1))], []⟩ fun a hS => ?_
      rcases Bool.eq_false_or_eq_true (((gi l_ i_112).What) != 1) with hb | hb
      ·replace hS := hS.lit (t := 24) kr hb
       replace hm := hm.1 hb
       refine eP T hS ⟨[(0, Sl a1 l_ c1), (3, Sl a109 out_108 c110), (4, I i_112), (5, I ((gi l_ i_112).Prc)), (30, B true)], []⟩ fun a hS => ?_
       exact ⟨ρ, _, out_108, true, a109, c110, hm, hS.sl _, hO, h107, h111⟩
      ·replace hS := hS.lit (t := 24) kr hb
       replace hm := hm.2 hb
       refine oP T hS 2 ⟨[(0, Sl a1 l_ c1), (3, Sl a109 out_108 c110), (4, I i_112), (5, I ((gi l_ i_112).Prc)), (24, B false), (25, Sl a1 l_ c1), (26, I ((gi l_ i_112).Prc))], []⟩ fun a hS => ?_
       refine op1 (call hS kr kr hb68 kr (fun _ _ => rfl) (k68 _ _ l_ ((gi l_ i_112).Prc) a1 c1 h107) ?_)
       intro v289 a w290 χ291 hE hp hS
       replace hO := hO.mv hE rfl rfl
       replace h107 := h107.mv hE rfl
       replace h111 := h111.mv hE rfl rfl
       clear hE
       obtain ⟨r292, hr⟩ : ∃ r, ref25_last l_ ((gi l_ i_112).Prc) = r := ⟨_, rfl⟩
       replace hm := hm r292 hr
       rw [hr] at hp
       clear hr
       subst hp
       refine eP T hS ⟨[(0, Sl a1 l_ c1), (3, Sl a109 out_108 c110), (4, I i_112), (5, I ((gi l_ i_112).Prc)), (25, Sl a1 l_ c1), (26, I ((gi l_ i_112).Prc)), (27, I r292), (28, I i_112), (29, B (r292 != i_112)), (30, B (r292 != i_112))], []⟩ fun a hS => ?_
       exact ⟨ρ, _, out_108, (r292 != i_112), a109, c110, hm, hS.sl _, hO, h107, h111⟩
     ·rintro a w294 ⟨ρ, χ293, out_124, x_128, a125, c126, hm, hS, hO, h123, h127⟩
      unfold VC48_J3 at hm
      refine wcond hS (b := x_128) kr (fun hb => ?_) (fun hb => ?_)
      ·replace hm := hm.1 hb
       refine wexit (by rfl) ?_
       exact ⟨ρ, _, out_124, a125, c126, hm, hS.sl _, hO, h123, h127⟩
      ·replace hm := hm.2 hb
       refine wskip ?_
       refine rP T hS ⟨[(0, Sl a1 l_ c1), (3, Sl a125 out_124 c126), (4, I i_112), (5, I ((gi l_ i_112).Prc)), (6, I 0)], []⟩ fun a hS => ?_
       refine wcut (fun a w => ∃ (ρ : Nat → Nat) (χ : Nat → Nat) (out_130 : List Int) (k_134 : Int) (a131 : Option Addr) (c132 : Nat), VC48_J4 l_ I1 μ1 out_108 i_112 out_130 k_134 ∧ St Tryd.f48.ntmps ⟨[(0, Sl a1 l_ c1), (3, Sl a131 out_130 c132), (4, I i_112), (5, I ((gi l_ i_112).Prc)), (6, I k_134)], []⟩ ρ a w χ ∧ Old w0 χ0 w χ ∧ RS tApi_Event w χ a1 l_ c1 ∧ OS tI 3 w χ 1003 a131 out_130 c132) ?_ ?_
       ·refine wblock ?_
        obtain ⟨I2, μ2, hm0, hm⟩ := hm
        refine wloop (σ := (List Int) × Int) (fun s a w => ∃ (ρ : Nat → Nat) (χ : Nat → Nat) (a263 : Option Addr) (c264 : Nat), I2 s.1 s.2 ∧ St Tryd.f48.ntmps ⟨[(0, Sl a1 l_ c1), (3, Sl a263 s.1 c264), (4, I i_112), (5, I ((gi l_ i_112).Prc)), (6, I s.2)], []⟩ ρ a w χ ∧ Old w0 χ0 w χ ∧ RS tApi_Event w χ a1 l_ c1 ∧ OS tI 3 w χ 1003 a263 s.1 c264) (fun s => μ2 s.1 s.2) (⟨out_124, 0⟩) ?_ ?_
        ·exact ⟨ρ, _, a125, c126, hm0, hS.sl _, hO, h123, h127⟩
        ·rintro ⟨out_262, k_266⟩ a w281 ⟨ρ, χ280, a263, c264, hI, hS, hO, h261, h265⟩
         replace hm := hm out_262 k_266 hI
         clear hI hm0
         refine wseq ?_
         refine wcut (fun a w => ∃ (ρ : Nat → Nat) (χ : Nat → Nat) (out_268 : List Int) (x_272 : Bool) (a269 : Option Addr) (c270 : Nat), VC48_J5 l_ I1 μ1 out_108 i_112 I2 μ2 out_262 k_266 out_268 x_272 ∧ St Tryd.f48.ntmps ⟨[(0, Sl a1 l_ c1), (3, Sl a269 out_268 c270), (4, I i_112), (5, I ((gi l_ i_112).Prc)), (6, I k_266), (42, B x_272)], []⟩ ρ a w χ ∧ Old w0 χ0 w χ ∧ RS tApi_Event w χ a1 l_ c1 ∧ OS tI 3 w χ 1003 a269 out_268 c270) ?_ ?_
         ·refine region ?_
          refine oP T hS 5 ⟨[(0, Sl a1 l_ c1), (3, Sl a263 out_262 c264), (4, I i_112), (5, I ((gi l_ i_112).Prc)), (6, I k_266), (35, B (decide (k_266 < ((out_262.length : Nat) : Int))))], []⟩ fun a hS => ?_
          rcases Bool.eq_false_or_eq_true (decide (k_266 < ((out_262.length : Nat) : Int))) with hb | hb
          ·replace hS := hS.lit (t := 35) kr hb
           replace hm := hm.1 hb
           refine oP T hS 2 ⟨[(0, Sl a1 l_ c1), (3, Sl a263 out_262 c264), (4, I i_112), (5, I ((gi l_ i_112).Prc)), (6, I k_266), (35, B true), (36, Sl a263 out_262 c264), (37, I k_266)], []⟩ fun a hS => ?_
           obtain ⟨hq276, hm⟩ := hm
           refine op1 (indexX (E := 3) (k := .i64) T hS kr kr kr kr h265 kr kr hq276.1 hq276.2 ?_)
           intro A273 a h275 h274 hS
           refine op1 (load1X T hS kr kr kr h274 rfl kr ?_)
           intro v277 a hv hS
           cases hv
           refine eP T hS ⟨[(0, Sl a1 l_ c1), (3, Sl a263 out_262 c264), (4, I i_112), (5, I ((gi l_ i_112).Prc)), (6, I k_266), (36, Sl a263 out_262 c264), (37, I k_266), (38, V (.pointer (some A273))), (39, I (gi out_262 k_266)), (40, I ((gi l_ i_112).Prc)), (41, B (decide ((gi out_262 k_266) < ((gi l_ i_112).Prc)))), (42, B (decide ((gi out_262 k_266) < ((gi l_ i_112).Prc))))], []⟩ fun a hS => ?_
           exact ⟨ρ, _, out_262, decide ((gi out_262 k_266) < ((gi l_ i_112).Prc)), a263, c264, hm, hS.sl _, hO, h261, h265⟩
          ·replace hS := hS.lit (t := 35) kr hb
           replace hm := hm.2 hb
           refine eP T hS ⟨[(0, Sl a1 l_ c1), (3, Sl a263 out_262 c264), (4, I i_112), (5, I ((gi l_ i_112).Prc)), (6, I k_266), (42, B false)], []⟩ fun a hS => ?_
           exact ⟨ρ, _, out_262, false, a263, c264, hm, hS.sl _, hO, h261, h265⟩
         ·rintro a w279 ⟨ρ, χ278, out_268, x_272, a269, c270, hm, hS, hO, h267, h271⟩
          unfold VC48_J5 at hm
          refine wcond hS (b := x_272) kr (fun hb => ?_) (fun hb => ?_)
          ·replace hm := hm.1 hb
           refine wskip ?_
           refine wblock ?_
           refine region (eP T hS ⟨[(0, Sl a1 l_ c1), (3, Sl a269 out_268 c270), (4, I i_112), (5, I ((gi l_ i_112).Prc)), (6, I (IntKind.i64.wrap (k_266 + 1)))], []⟩ fun a hS => ?_)
           exact ⟨⟨out_268, IntKind.i64.wrap (k_266 + 1)⟩, ⟨ρ, _, a269, c270, hm.1, hS.sl _, hO, h267, h271⟩, hm.2⟩
          ·replace hm := hm.2 hb
           refine wexit (by rfl) ?_
           exact ⟨ρ, _, out_268, k_266, a269, c270, hm, hS.sl _, hO, h267, h271⟩
       ·rintro a w283 ⟨ρ, χ282, out_130, k_134, a131, c132, hm, hS, hO, h129, h133⟩
        unfold VC48_J4 at hm
        refine drawnX [] mixed hS ?_
        intro w135 χ136 hS hE hD hH
        replace hO := hO.mv hE rfl rfl
        replace h129 := h129.mv hE rfl
        replace h133 := h133.mv hE rfl rfl
        clear hE
        refine tk T [1, 2, 5, 8, 9] [] hS hH #[false, true, true, false, false, true, false, false, true, true, false, false, false] 8 ⟨[(0, Sl a1 l_ c1), (3, Sl a131 out_130 c132), (4, I i_112), (46, Sl a131 out_130 c132), (47, I k_134), (50, I ((gi l_ i_112).Prc)), (53, Sl a131 out_130 c132), (54, I k_134)], []⟩ fun a hS => ?_
        obtain ⟨χ137, hE, hF⟩ := h133.freeze (by decide)
        replace hS := hS.ev hE (xone_box kr)
        replace hO := hO.mv hE rfl rfl
        replace hD := hD.ev hE rfl
        replace h129 := h129.mv hE rfl
        have h138 := hF; clear hE hF
        obtain ⟨hq, hm⟩ := hm
        refine dslice0 (E := 3) (kh := .i64) T 3 hS kr kr kr (by rfl) kr hH kr kr h138 kr kr hq.1 hq.2 ?_
        intro a139 c140 a h141 hS
        clear hq
        obtain ⟨hq, hm⟩ := hm
        refine dslice1 (E := 3) (kl := .i64) T 10 hS kr kr kr (by rfl) kr hH kr kr h138 kr kr hq.1 hq.2 ?_
        intro a142 c143 a h144 hS
        clear hq
        obtain ⟨hgq4, hm⟩ := hm
        refine drcut (fun a w => ∃ (χ : Nat → Nat) (a208 : Option Addr) (c209 : Nat) (a211 : Option Addr) (c212 : Nat), St Tryd.f48.ntmps ⟨[(0, Sl a1 l_ c1), (3, Sl a131 out_130 c132), (4, I i_112), (49, Sl a208 (([] : List Int) ++ (out_130.take k_134.toNat)) c209), (51, Sl a211 [(gi l_ i_112).Prc] c212), (55, Sl a142 (out_130.drop k_134.toNat) c143)], []⟩ ρ a w χ ∧ Old w0 χ0 w χ ∧ M0 w135 χ136 w χ ∧ Hold w135 χ136 (filt [] ⟨[(0, Sl a1 l_ c1), (3, Sl a131 out_130 c132), (4, I i_112), (5, I ((gi l_ i_112).Prc)), (6, I k_134)], []⟩) ρ w ∧ RS tApi_Event w χ a1 l_ c1 ∧ RS tI w χ a131 out_130 c132 ∧ OS tI 3 w χ 1003 a208 (([] : List Int) ++ (out_130.take k_134.toNat)) c209 ∧ RS tI w χ a211 [(gi l_ i_112).Prc] c212 ∧ RS tI w χ a142 (out_130.drop k_134.toNat) c143) #[true, true, true, true, true, true, true, false, true, true, true, false, false] 3 ?_ (fun H => ?_)
        ·rintro a w250 ⟨χ249, a208, c209, a211, c212, hS, hO, hD, hH, h205, h206, h207, h210, h213⟩
         clear hgq4
         obtain ⟨hq, hm⟩ := hm
         obtain ⟨news, hN⟩ := h210.src
         refine only 7 kr (by rfl) (append (E := 3) (T := tI) (col := 1003) (xs := ([] : List Int) ++ (out_130.take k_134.toNat)) T hS kr kr kr kr h207 hN kr kr kr kr hq ?_)
         intro a254 c255 a w251 χ252 hE h253 hS
         clear hq hN
         clear h207
         replace hO := hO.mv hE rfl rfl
         replace hD := hD.ev hE rfl
         replace h205 := h205.mv hE rfl
         replace h206 := h206.mv hE rfl
         replace h210 := h210.mv hE rfl
         replace h213 := h213.mv hE rfl
         clear hE
         refine andH (Hold.of hS (bks := []) kr hD) ?_
         intro hH
         obtain ⟨hq, hm⟩ := hm
         obtain ⟨news, hN⟩ := h213.src
         refine only 11 kr (by rfl) (append (E := 3) (T := tI) (col := 1003) (xs := (([] : List Int) ++ (out_130.take k_134.toNat)) ++ [(gi l_ i_112).Prc]) T hS kr kr kr kr h253 hN kr kr kr kr hq ?_)
         intro a259 c260 a w256 χ257 hE h258 hS
         clear hq hN
         clear h253
         replace hO := hO.mv hE rfl rfl
         replace hD := hD.ev hE rfl
         replace h205 := h205.mv hE rfl
         replace h206 := h206.mv hE rfl
         replace h210 := h210.mv hE rfl
         replace h213 := h213.mv hE rfl
         clear hE
         refine andH (Hold.of hS (bks := []) kr hD) ?_
         intro hH
         refine tk T [12] [] hS hH #[true, true, true, true, true, true, true, true, true, true, true, true, true] 0 ⟨[(0, Sl a1 l_ c1), (3, Sl a259 (((([] : List Int) ++ (out_130.take k_134.toNat)) ++ [(gi l_ i_112).Prc]) ++ (out_130.drop k_134.toNat)) c260), (4, I i_112)], []⟩ fun a hS => ?_
         refine drawnDone kr ?_
         clear hD hH
         replace hS := hS.sl ⟨[(0, Sl a1 l_ c1), (3, Sl a259 (((([] : List Int) ++ (out_130.take k_134.toNat)) ++ [(gi l_ i_112).Prc]) ++ (out_130.drop k_134.toNat)) c260), (4, I i_112)], []⟩
         exact ⟨ρ, _, ((([] : List Int) ++ (out_130.take k_134.toNat)) ++ [(gi l_ i_112).Prc]) ++ (out_130.drop k_134.toNat), a259, c260, hm, hS.sl _, hO, h205, h258⟩
        ·clear hm
         refine anyOf (is := [0, 6]) kr (by decide) ?_
         intro i hi
         rcases mem2 hi with rfl | rfl
         ·refine oneOp (by rfl) (lit (E := 3) (col := 1003) (T := tI) (vals := []) (ys := ([] : List Int)) T hS kr kr kr kr trivial rfl kr kr kr kr ?_)
          intro b214 a w215 χ216 hE h217 hN hS
          clear hN
          replace hO := hO.mv hE rfl rfl
          replace hD := hD.ev hE rfl
          replace h129 := h129.mv hE rfl
          replace h138 := h138.mv hE rfl
          replace h141 := h141.mv hE rfl
          replace h144 := h144.mv hE rfl
          clear hE
          refine andH (Hold.of hS (bks := []) kr hD) ?_
          intro hH
          refine anyOf (is := [4, 6]) kr (by decide) ?_
          intro i hi
          rcases mem2 hi with rfl | rfl
          ·have hq := hgq4
           obtain ⟨news, hN⟩ := h141.src
           refine oneOp (by rfl) (append (E := 3) (T := tI) (col := 1003) (xs := ([] : List Int)) T hS kr kr kr kr h217 hN kr kr kr kr hq ?_)
           intro a221 c222 a w218 χ219 hE h220 hS
           clear hq hN
           clear h217
           replace hO := hO.mv hE rfl rfl
           replace hD := hD.ev hE rfl
           replace h129 := h129.mv hE rfl
           replace h138 := h138.mv hE rfl
           replace h141 := h141.mv hE rfl
           replace h144 := h144.mv hE rfl
           clear hE
           refine andH (Hold.of hS (bks := []) kr hD) ?_
           intro hH
           refine only 6 kr (by rfl) (lit (E := 3) (col := 0) (T := tI) (vals := [.int .i64 ((gi l_ i_112).Prc)]) (ys := [(gi l_ i_112).Prc]) T hS kr kr kr kr (by exact ⟨rfl, trivial⟩) rfl kr kr kr kr ?_)
           intro b223 a w224 χ225 hE h226 hN hS
           clear hN
           replace hO := hO.mv hE rfl rfl
           replace hD := hD.ev hE rfl
           replace h129 := h129.mv hE rfl
           replace h138 := h138.mv hE rfl
           replace h141 := h141.mv hE rfl
           replace h144 := h144.mv hE rfl
           replace h220 := h220.mv hE rfl rfl
           clear hE
           replace h226 := h226.rs0
           refine andH (Hold.of hS (bks := []) kr hD) ?_
           intro hH
           exact H _ _ ⟨_, a221, c222, (some ⟨b223, 0, none⟩), 1, hS.sl _, hO, hD, hH, h129, h138, h220, h226, h144⟩
          ·refine oneOp (by rfl) (lit (E := 3) (col := 0) (T := tI) (vals := [.int .i64 ((gi l_ i_112).Prc)]) (ys := [(gi l_ i_112).Prc]) T hS kr kr kr kr (by exact ⟨rfl, trivial⟩) rfl kr kr kr kr ?_)
           intro b227 a w228 χ229 hE h230 hN hS
           clear hN
           replace hO := hO.mv hE rfl rfl
           replace hD := hD.ev hE rfl
           replace h129 := h129.mv hE rfl
           replace h138 := h138.mv hE rfl
           replace h141 := h141.mv hE rfl
           replace h144 := h144.mv hE rfl
           replace h217 := h217.mv hE rfl rfl
           clear hE
           replace h230 := h230.rs0
           refine andH (Hold.of hS (bks := []) kr hD) ?_
           intro hH
           have hq := hgq4
           obtain ⟨news, hN⟩ := h141.src
           refine only 4 kr (by rfl) (append (E := 3) (T := tI) (col := 1003) (xs := ([] : List Int)) T hS kr kr kr kr h217 hN kr kr kr kr hq ?_)
           intro a234 c235 a w231 χ232 hE h233 hS
           clear hq hN
           clear h217
           replace hO := hO.mv hE rfl rfl
           replace hD := hD.ev hE rfl
           replace h129 := h129.mv hE rfl
           replace h138 := h138.mv hE rfl
           replace h141 := h141.mv hE rfl
           replace h144 := h144.mv hE rfl
           replace h230 := h230.mv hE rfl
           clear hE
           refine andH (Hold.of hS (bks := []) kr hD) ?_
           intro hH
           exact H _ _ ⟨_, a234, c235, (some ⟨b227, 0, none⟩), 1, hS.sl _, hO, hD, hH, h129, h138, h233, h230, h144⟩
         ·refine oneOp (by rfl) (lit (E := 3) (col := 0) (T := tI) (vals := [.int .i64 ((gi l_ i_112).Prc)]) (ys := [(gi l_ i_112).Prc]) T hS kr kr kr kr (by exact ⟨rfl, trivial⟩) rfl kr kr kr kr ?_)
          intro b236 a w237 χ238 hE h239 hN hS
          clear hN
          replace hO := hO.mv hE rfl rfl
          replace hD := hD.ev hE rfl
          replace h129 := h129.mv hE rfl
          replace h138 := h138.mv hE rfl
          replace h141 := h141.mv hE rfl
          replace h144 := h144.mv hE rfl
          clear hE
          replace h239 := h239.rs0
          refine andH (Hold.of hS (bks := []) kr hD) ?_
          intro hH
          refine only 0 kr (by rfl) (lit (E := 3) (col := 1003) (T := tI) (vals := []) (ys := ([] : List Int)) T hS kr kr kr kr trivial rfl kr kr kr kr ?_)
          intro b240 a w241 χ242 hE h243 hN hS
          clear hN
          replace hO := hO.mv hE rfl rfl
          replace hD := hD.ev hE rfl
          replace h129 := h129.mv hE rfl
          replace h138 := h138.mv hE rfl
          replace h141 := h141.mv hE rfl
          replace h144 := h144.mv hE rfl
          replace h239 := h239.mv hE rfl
          clear hE
          refine andH (Hold.of hS (bks := []) kr hD) ?_
          intro hH
          have hq := hgq4
          obtain ⟨news, hN⟩ := h141.src
          refine only 4 kr (by rfl) (append (E := 3) (T := tI) (col := 1003) (xs := ([] : List Int)) T hS kr kr kr kr h243 hN kr kr kr kr hq ?_)
          intro a247 c248 a w244 χ245 hE h246 hS
          clear hq hN
          clear h243
          replace hO := hO.mv hE rfl rfl
          replace hD := hD.ev hE rfl
          replace h129 := h129.mv hE rfl
          replace h138 := h138.mv hE rfl
          replace h141 := h141.mv hE rfl
          replace h144 := h144.mv hE rfl
          replace h239 := h239.mv hE rfl
          clear hE
          refine andH (Hold.of hS (bks := []) kr hD) ?_
          intro hH
          exact H _ _ ⟨_, a247, c248, (some ⟨b236, 0, none⟩), 1, hS.sl _, hO, hD, hH, h129, h138, h246, h239, h144⟩
    ·rintro a w296 ⟨ρ, χ295, out_114, a115, c116, hm, hS, hO, h113, h117⟩
     unfold VC48_J2 at hm
     refine region (eP T hS ⟨[(0, Sl a1 l_ c1), (3, Sl a115 out_114 c116), (4, I (IntKind.i64.wrap (i_112 + 1)))], []⟩ fun a hS => ?_)
     exact ⟨⟨out_114, IntKind.i64.wrap (i_112 + 1)⟩, ⟨ρ, _, a115, c116, hm.1, hS.sl _, hO, h113, h117⟩, hm.2⟩
   ·replace hm := hm.2 hb
    refine wexit (by rfl) ?_
    exact ⟨ρ, _, out_108, a109, c110, hm, hS.sl _, hO, h111⟩
 ·rintro a w300 ⟨ρ, χ299, out_101, a102, c103, hm, hS, hO, h104⟩
  unfold VC48_J1 at hm
  refine rP T hS ⟨[(2, Sl a102 out_101 c103)], []⟩ fun a hS => ?_
  refine wret ?_
  obtain ⟨χ105, hE, hF⟩ := h104.freeze (by decide)
  replace hS := hS.ev hE (xone_box kr)
  replace hO := hO.mv hE rfl rfl
  have h106 := hF; clear hE hF
  exact fin T hS hO (fun c => c) rfl (r := [.slice a102 out_101.length c103]) kr (fun χ' hM hC => ⟨out_101, hm, a102, c103, rfl, h106.m0 hM⟩)
theorem C48 (k68 : S68) (v : ∀ (l_ : List Api_Event), preOp l_ → VC48 l_ (fun r => r = ref25_Open l_)) : S48 := by
 intro w χ l_ a1 c1   hp h1
 refine (W48 k68 w χ l_ a1 c1   _ (v l_ hp) h1).mono ?_
 rintro _ _ _ _ ⟨r, rfl, h⟩
 exact h
/-- replevin/replevinref01.Has -/
theorem W47 (w0 : World) (χ0 : Nat → Nat) (l_ : List Int) (n_ : Int) (a1 : Option Addr) (c1 : Nat) (Q : Bool → Prop) (hm : VC47 l_ n_ Q) (h1 : RS tI w0 χ0 a1 l_ c1) :
  Ret Tryd.prog 47 #[.slice a1 l_.length c1, .int .i64 n_] xnone w0 χ0 (fun w χ' v => ∃ r, Q r ∧ v = .bool r) := by
 unfold VC47 at hm
 replace hm := hm (h1.sm kr)
 refine enter Tryd.func47 rfl (vals := [.slice a1 l_.length c1, .int .i64 n_]) kr ?_
 intro ρ a hS hO hM
 replace h1 := h1.m0 hM
 clear hM
 refine rP T hS ⟨[(0, Sl a1 l_ c1), (1, I n_)], []⟩ fun a hS => ?_
 refine wcut (fun a w => ∃ (ρ : Nat → Nat) (χ : Nat → Nat), VC47_J1 Q ∧ St Tryd.f47.ntmps ⟨[], []⟩ ρ a w χ ∧ Old w0 χ0 w χ) ?_ ?_
 ·refine rP T hS ⟨[(0, Sl a1 l_ c1), (1, I n_), (5, I 0)], []⟩ fun a hS => ?_
  refine wblock ?_
  obtain ⟨I1, μ1, hm0, hm⟩ := hm
  refine wloop (σ := Int) (fun s a w => ∃ (ρ : Nat → Nat) (χ : Nat → Nat), I1 s ∧ St Tryd.f47.ntmps ⟨[(0, Sl a1 l_ c1), (1, I n_), (5, I s)], []⟩ ρ a w χ ∧ Old w0 χ0 w χ ∧ RS tI w χ a1 l_ c1) (fun s => μ1 s) (0) ?_ ?_
  ·exact ⟨ρ, _, hm0, hS.sl _, hO, h1⟩
  ·rintro i_102 a w107 ⟨ρ, χ106, hI, hS, hO, h101⟩
   replace hm := hm i_102 hI
   clear hI hm0
   refine wseq ?_
   refine rP T hS ⟨[(0, Sl a1 l_ c1), (1, I n_), (5, I i_102), (9, B (decide (i_102 < ((l_.length : Nat) : Int))))], []⟩ fun a hS => ?_
   refine wcond hS (b := decide (i_102 < ((l_.length : Nat) : Int))) kr (fun hb => ?_) (fun hb => ?_)
   ·replace hm := hm.1 hb
    refine wskip ?_
    refine wseq ?_
    refine wblock ?_
    refine regO ?_
    refine oP T hS 2 ⟨[(0, Sl a1 l_ c1), (1, I n_), (5, I i_102), (12, Sl a1 l_ c1), (13, I i_102)], []⟩ fun a hS => ?_
    obtain ⟨hq, hm⟩ := hm
    refine op1 (index (e := 3) (k := .i64) T hS kr kr kr kr h101 kr kr hq.1 hq.2 ?_)
    intro A103 a h104 hS
    clear hq
    refine op1 (load1 T hS kr kr kr h104 rfl kr ?_)
    intro v105 a hv hS
    cases hv
    refine eP T hS ⟨[(0, Sl a1 l_ c1), (1, I n_), (5, I i_102), (17, B ((gi l_ i_102) == n_))], []⟩ fun a hS => ?_
    refine wcond hS (b := ((gi l_ i_102) == n_)) kr (fun hb => ?_) (fun hb => ?_)
    ·replace hm := hm.1 hb
     refine rP T hS ⟨[(4, B true)], []⟩ fun a hS => ?_
     refine wret ?_
     exact fin T hS hO (fun c => c) rfl (r := [.bool true]) kr (fun χ' hM hC => ⟨true, hm, rfl⟩)
    ·replace hm := hm.2 hb
     refine wskip ?_
     refine region (eP T hS ⟨[(0, Sl a1 l_ c1), (1, I n_), (5, I (IntKind.i64.wrap (i_102 + 1)))], []⟩ fun a hS => ?_)
     exact ⟨IntKind.i64.wrap (i_102 + 1), ⟨ρ, _, hm.1, hS.sl _, hO, h101⟩, hm.2⟩
   ·replace hm := hm.2 hb
    refine wexit (by rfl) ?_
    exact ⟨ρ, _, hm, hS.sl _, hO⟩
 ·rintro a w109 ⟨ρ, χ108, hm, hS, hO⟩
  unfold VC47_J1 at hm
  refine rP T hS ⟨[(4, B false)], []⟩ fun a hS => ?_
  refine wret ?_
  exact fin T hS hO (fun c => c) rfl (r := [.bool false]) kr (fun χ' hM hC => ⟨false, hm, rfl⟩)
theorem C47 (v : ∀ (l_ : List Int) (n_ : Int), VC47 l_ n_ (fun r => r = ref01_Has l_ n_)) : S47 := by
 intro w χ l_ n_ a1 c1   h1
 refine (W47 w χ l_ n_ a1 c1   _ (v l_ n_) h1).mono ?_
 rintro _ _ _ _ ⟨r, rfl, h⟩
 exact h
/-- replevin/replevinref26.one -/
theorem W22 (k46 : S46) (k47 : S47) (k48 : S48) (w0 : World) (χ0 : Nat → Nat) (o_ : Api_Object) (l_ : List Api_Event) (t_ : List Ref05_Token) (end_ : Int) (a1 : Option Addr) (c1 : Nat) (a2 : Option Addr) (c2 : Nat) (a3 : Option Addr) (c3 : Nat) (Q : Api_Event × Int × Int → Prop) (hm : VC22 o_ l_ t_ end_ Q) (h1 : RS tApi_Row w0 χ0 a1 o_.Rows c1) (h2 : RS tApi_Event w0 χ0 a2 l_ c2) (h3 : RS tRef05_Token w0 χ0 a3 t_ c3) :
  Ret Tryd.prog 22 #[.agg #[.int .i64 o_.States, .int .i64 o_.Kinds, .int .i64 o_.Init, .slice a1 o_.Rows.length c1], .slice a2 l_.length c2, .slice a3 t_.length c3, .int .i64 end_] xnone w0 χ0 (fun w χ' v => ∃ r, Q r ∧ v = .tuple #[.agg #[.int .i64 r.1.What, .int .i64 r.1.Prc, .int .i64 r.1.N], .int .i64 r.2.1, .int .i64 r.2.2]) := by
 unfold VC22 at hm
 replace hm := hm (h1.sm kr)
 replace hm := hm (h2.sm kr)
 replace hm := hm (h3.sm kr)
 refine enter Tryd.func22 rfl (vals := [.agg #[.int .i64 o_.States, .int .i64 o_.Kinds, .int .i64 o_.Init, .slice a1 o_.Rows.length c1], .slice a2 l_.length c2, .slice a3 t_.length c3, .int .i64 end_]) kr ?_
 intro ρ a hS hO hM
 replace h1 := h1.m0 hM
 replace h2 := h2.m0 hM
 replace h3 := h3.m0 hM
 clear hM
 refine rM T hS ⟨[(1, Sl a2 l_ c2), (2, Sl a3 t_ c3), (3, I end_), (4, Pt 5 0), (8, Pt 9 0)], [(5, (25, [I o_.States, I o_.Kinds, I o_.Init, Sl a1 o_.Rows c1])), (9, (51, [I 0, I 0, I 0]))]⟩ fun ρ a w185 χ186 hS hE hr => ?_
 replace hO := hO.mv hE rfl rfl
 replace h1 := h1.mv hE rfl
 replace h2 := h2.mv hE rfl
 replace h3 := h3.mv hE rfl
 clear hE hr
 refine regO ?_
 refine oP T hS 1 ⟨[(1, Sl a2 l_ c2), (2, Sl a3 t_ c3), (3, I end_), (4, Pt 5 0), (8, Pt 9 0), (17, Sl a3 t_ c3)], [(5, (25, [I o_.States, I o_.Kinds, I o_.Init, Sl a1 o_.Rows c1])), (9, (51, [I 0, I 0, I 0]))]⟩ fun a hS => ?_
 obtain ⟨hq, hm⟩ := hm
 refine op1 (index (e := 102) (k := .i64) T hS kr kr kr kr h3 kr kr hq.1 hq.2 ?_)
 intro A101 a h102 hS
 clear hq
 refine op1 (fieldA (off := 2) (fsz := 1) (ft := 9) (TF := tStr) (y := (gi t_ 0).Text) T hS kr kr kr h102 kr kr kr (fun cs h => Ref05_Token_f2 h) ?_)
 intro A103 a h104 hS
 refine op1 (load1 T hS kr kr kr h104 rfl kr ?_)
 intro v105 a hv hS
 cases hv
 refine eP T hS ⟨[(1, Sl a2 l_ c2), (2, Sl a3 t_ c3), (3, I end_), (4, Pt 5 0), (8, Pt 9 0), (11, Z ((gi t_ 0).Text))], [(5, (25, [I o_.States, I o_.Kinds, I o_.Init, Sl a1 o_.Rows c1])), (9, (51, [I 0, I 0, I 0]))]⟩ fun a hS => ?_
 refine wseq ?_
 refine rP T hS ⟨[(1, Sl a2 l_ c2), (2, Sl a3 t_ c3), (3, I end_), (4, Pt 5 0), (8, Pt 9 0), (11, Z ((gi t_ 0).Text)), (26, B ((!(((gi t_ 0).Text) == ([99, 97, 108, 108] : List UInt8))) && (!(((gi t_ 0).Text) == ([114, 101, 116] : List UInt8)))))], [(5, (25, [I o_.States, I o_.Kinds, I o_.Init, Sl a1 o_.Rows c1])), (9, (51, [I 0, I 0, I 0]))]⟩ (sp := [23]) fun a hS => ?_
 refine wcond hS (b := ((!(((gi t_ 0).Text) == ([99, 97, 108, 108] : List UInt8))) && (!(((gi t_ 0).Text) == ([114, 101, 116] : List UInt8))))) kr (fun hb => ?_) (fun hb => ?_)
 ·replace hm := hm.1 hb
  replace hS := hS.sl ⟨[(2, Sl a3 t_ c3), (8, Pt 9 0)], [(9, (51, [I 0, I 0, I 0]))]⟩
  refine drawnSX [] mixed hS ?_
  intro w106 χ107 hS hE hD hH
  replace hO := hO.mv hE rfl rfl
  replace h3 := h3.mv hE rfl
  clear hE
  refine tk T [0, 1] [] hS hH #[true, true, false, false, false, false, false, false] 6 ⟨[(8, Pt 9 0), (27, V (.agg #[.int .i64 0, .int .i64 0, .int .i64 0])), (28, Sl a3 t_ c3)], [(9, (51, [I 0, I 0, I 0]))]⟩ fun a hS => ?_
  obtain ⟨hq, hm⟩ := hm
  refine dindex (e := 102) (k := .i64) T 2 hS kr kr kr (by rfl) kr hH kr kr h3 kr kr hq.1 hq.2 ?_
  intro A108 a h109 hS
  clear hq
  have h109b := h109.here
  refine dfieldA (off := 1) (fsz := 1) (ft := 3) (TF := tI) (y := (gi t_ 0).At) 3 T hS kr kr kr (by rfl) kr hH kr h109 kr kr kr (fun cs h => Ref05_Token_f1 h) ?_
  intro A110 a h111 hbl hS
  have h111b := h109b
  rw [← hbl] at h111b
  clear hbl
  refine dload1 T 4 hS kr kr kr (by rfl) kr hH kr h111 h111b rfl kr ?_
  intro v112 a hv hS
  cases hv
  replace hS := hS.sl ⟨[(8, Pt 9 0), (27, V (.agg #[.int .i64 0, .int .i64 0, .int .i64 0])), (28, Sl a3 t_ c3), (29, V (.pointer (some A108))), (30, V (.pointer (some A110))), (31, I ((gi t_ 0).At))], [(9, (51, [I 0, I 0, I 0]))]⟩
  refine only 5 kr (by rfl) (store1 T hS kr kr (sy' := ⟨[(8, Pt 9 0), (27, V (.agg #[.int .i64 0, .int .i64 0, .int .i64 0])), (28, Sl a3 t_ c3), (29, V (.pointer (some A108))), (30, V (.pointer (some A110))), (31, I ((gi t_ 0).At))], [(9, (51, [I 0, I 0, I 0])), (9, (51, [I 0, I 0, I 0]))]⟩) kr ?_)
  intro a w113 χ114 hS hE
  replace hO := hO.mv hE rfl rfl
  replace hD := hD.ev hE rfl
  replace h3 := h3.mv hE rfl
  replace h109 := h109.mv hE rfl
  replace h111 := h111.mv hE rfl
  clear hE
  replace hS := hS.sl ⟨[(8, Pt 9 0), (27, V (.agg #[.int .i64 0, .int .i64 0, .int .i64 0])), (28, Sl a3 t_ c3), (29, V (.pointer (some A108))), (30, V (.pointer (some A110))), (31, I ((gi t_ 0).At))], [(9, (51, [I 0, I 0, I 0]))]⟩
  refine andH (Hold.of hS (bks := []) kr hD) ?_
  intro hH
  refine tk T [6, 7] [] hS hH #[true, true, true, true, true, true, true, true] 0 ⟨[(8, Pt 9 0), (9, I ((gi t_ 0).At)), (10, I 8)], [(9, (51, [I 0, I 0, I 0]))]⟩ fun a hS => ?_
  refine drawnDone kr ?_
  clear hD hH
  replace hS := hS.sl ⟨[(8, Pt 9 0), (9, I ((gi t_ 0).At)), (10, I 8)], [(9, (51, [I 0, I 0, I 0]))]⟩
  refine wret ?_
  exact fin T hS hO (fun c => c) rfl (r := [.agg #[.int .i64 0, .int .i64 0, .int .i64 0], .int .i64 ((gi t_ 0).At), .int .i64 8]) kr (fun χ' hM hC => ⟨((⟨0, 0, 0⟩ : Api_Event), (gi t_ 0).At, 8), hm, rfl⟩)
 ·replace hm := hm.2 hb
  refine wskip ?_
  refine rM T hS ⟨[(1, Sl a2 l_ c2), (2, Sl a3 t_ c3), (3, I end_), (4, Pt 5 0), (8, Pt 9 0), (11, Z ((gi t_ 0).Text)), (12, Pt 13 0)], [(5, (25, [I o_.States, I o_.Kinds, I o_.Init, Sl a1 o_.Rows c1])), (9, (51, [I 0, I 0, I 0])), (13, (51, [I 2, I 0, I 0]))]⟩ fun ρ a w183 χ184 hS hE hr => ?_
  replace hO := hO.mv hE rfl rfl
  replace h1 := h1.mv hE rfl
  replace h2 := h2.mv hE rfl
  replace h3 := h3.mv hE rfl
  clear hE hr
  refine rP T hS ⟨[(1, Sl a2 l_ c2), (2, Sl a3 t_ c3), (3, I end_), (4, Pt 5 0), (8, Pt 9 0), (11, Z ((gi t_ 0).Text)), (12, Pt 13 0), (13, I 1000000)], [(5, (25, [I o_.States, I o_.Kinds, I o_.Init, Sl a1 o_.Rows c1])), (9, (51, [I 0, I 0, I 0])), (13, (51, [I 2, I 0, I 0]))]⟩ fun a hS => ?_
  refine wcut (fun a w => ∃ (ρ : Nat → Nat) (χ : Nat → Nat) (top_117 : Int) (x_118 : Int), VC22_J1 l_ t_ end_ Q top_117 x_118 ∧ St Tryd.f22.ntmps ⟨[(1, Sl a2 l_ c2), (2, Sl a3 t_ c3), (3, I end_), (8, Pt 9 0), (11, Z ((gi t_ 0).Text)), (12, Pt 13 0), (13, I top_117)], [(9, (51, [I 0, I 0, I 0])), (13, (51, [I x_118, I 0, I 0]))]⟩ ρ a w χ ∧ Old w0 χ0 w χ ∧ RS tApi_Event w χ a2 l_ c2 ∧ RS tRef05_Token w χ a3 t_ c3) ?_ ?_
  ·refine rP T hS ⟨[(1, Sl a2 l_ c2), (2, Sl a3 t_ c3), (3, I end_), (4, Pt 5 0), (8, Pt 9 0), (11, Z ((gi t_ 0).Text)), (12, Pt 13 0), (13, I 1000000), (34, B (((gi t_ 0).Text) == ([99, 97, 108, 108] : List UInt8)))], [(5, (25, [I o_.States, I o_.Kinds, I o_.Init, Sl a1 o_.Rows c1])), (9, (51, [I 0, I 0, I 0])), (13, (51, [I 2, I 0, I 0]))]⟩ fun a hS => ?_
   refine wcond hS (b := (((gi t_ 0).Text) == ([99, 97, 108, 108] : List UInt8))) kr (fun hb => ?_) (fun hb => ?_)
   ·replace hm := hm.1 hb
    refine rM T hS ⟨[(1, Sl a2 l_ c2), (2, Sl a3 t_ c3), (3, I end_), (4, Pt 5 0), (8, Pt 9 0), (11, Z ((gi t_ 0).Text)), (12, Pt 13 0)], [(5, (25, [I o_.States, I o_.Kinds, I o_.Init, Sl a1 o_.Rows c1])), (9, (51, [I 0, I 0, I 0])), (13, (51, [I 1, I 0, I 0]))]⟩ fun ρ a w179 χ180 hS hE hr => ?_
    replace hO := hO.mv hE rfl rfl
    replace h1 := h1.mv hE rfl
    replace h2 := h2.mv hE rfl
    replace h3 := h3.mv hE rfl
    clear hE hr
    refine region (eP T hS ⟨[(1, Sl a2 l_ c2), (2, Sl a3 t_ c3), (3, I end_), (8, Pt 9 0), (11, Z ((gi t_ 0).Text)), (12, Pt 13 0), (13, I (IntKind.i64.wrap (o_.Kinds - 1)))], [(9, (51, [I 0, I 0, I 0])), (13, (51, [I 1, I 0, I 0]))]⟩ fun a hS => ?_)
    exact ⟨ρ, _, IntKind.i64.wrap (o_.Kinds - 1), 1, hm, hS.sl _, hO, h2, h3⟩
   ·replace hm := hm.2 hb
    refine wskip ?_
    exact ⟨ρ, _, 1000000, 2, hm, hS.sl _, hO, h2, h3⟩
  ·rintro a w182 ⟨ρ, χ181, top_117, x_118, hm, hS, hO, h115, h116⟩
   unfold VC22_J1 at hm
   refine regO ?_
   refine oP T hS 2 ⟨[(1, Sl a2 l_ c2), (2, Sl a3 t_ c3), (3, I end_), (8, Pt 9 0), (12, Pt 13 0), (13, I top_117), (40, Sl a3 t_ c3), (41, Z ((gi t_ 0).Text))], [(9, (51, [I 0, I 0, I 0])), (13, (51, [I x_118, I 0, I 0]))]⟩ fun a hS => ?_
   refine op1 (lit (E := 3) (col := 0) (T := tI) (vals := [.int .i64 1, .int .i64 0]) (ys := [1, 0]) T hS kr kr kr kr (by exact ⟨rfl, rfl, trivial⟩) rfl kr kr kr kr ?_)
   intro b119 a w120 χ121 hE h122 hN hS
   clear hN
   replace hO := hO.mv hE rfl rfl
   replace h115 := h115.mv hE rfl
   replace h116 := h116.mv hE rfl
   clear hE
   replace h122 := h122.rs0
   refine oP T hS 1 ⟨[(1, Sl a2 l_ c2), (2, Sl a3 t_ c3), (3, I end_), (8, Pt 9 0), (12, Pt 13 0), (40, Sl a3 t_ c3), (41, Z ((gi t_ 0).Text)), (42, Sl (some ⟨b119, 0, none⟩) [1, 0] 2), (43, I top_117)], [(9, (51, [I 0, I 0, I 0])), (13, (51, [I x_118, I 0, I 0]))]⟩ fun a hS => ?_
   refine op1 (lit (E := 3) (col := 0) (T := tI) (vals := [.int .i64 1000, .int .i64 top_117]) (ys := [1000, top_117]) T hS kr kr kr kr (by exact ⟨rfl, rfl, trivial⟩) rfl kr kr kr kr ?_)
   intro b123 a w124 χ125 hE h126 hN hS
   clear hN
   replace hO := hO.mv hE rfl rfl
   replace h115 := h115.mv hE rfl
   replace h116 := h116.mv hE rfl
   replace h122 := h122.mv hE rfl
   clear hE
   replace h126 := h126.rs0
   refine oP T hS 1 ⟨[(1, Sl a2 l_ c2), (2, Sl a3 t_ c3), (3, I end_), (8, Pt 9 0), (12, Pt 13 0), (40, Sl a3 t_ c3), (41, Z ((gi t_ 0).Text)), (42, Sl (some ⟨b119, 0, none⟩) [1, 0] 2), (44, Sl (some ⟨b123, 0, none⟩) [1000, top_117] 2), (45, I end_)], [(9, (51, [I 0, I 0, I 0])), (13, (51, [I x_118, I 0, I 0]))]⟩ fun a hS => ?_
   obtain ⟨hq, hm⟩ := hm
   refine op1 (call hS kr kr hb46 kr (fun _ _ => rfl) (k46 _ _ t_ ((gi t_ 0).Text) [1, 0] [1000, top_117] end_ a3 c3 (some ⟨b119, 0, none⟩) 2 (some ⟨b123, 0, none⟩) 2 hq h116 h122 h126) ?_)
   intro v127 a w128 χ129 hE hp hS
   clear hq
   replace hO := hO.mv hE rfl rfl
   replace h115 := h115.mv hE rfl
   replace h116 := h116.mv hE rfl
   replace h122 := h122.mv hE rfl
   replace h126 := h126.mv hE rfl
   clear hE
   obtain ⟨a131, c132, hp, h133⟩ := hp
   obtain ⟨r130, hr⟩ : ∃ r, ref24_Numbers t_ ((gi t_ 0).Text) [1, 0] [1000, top_117] end_ = r := ⟨_, rfl⟩
   replace hm := hm r130 hr
   rw [hr] at hp h133
   clear hr
   subst hp
   replace hm := hm (h133.sm kr)
   refine eP T hS ⟨[(1, Sl a2 l_ c2), (2, Sl a3 t_ c3), (3, I end_), (8, Pt 9 0), (12, Pt 13 0), (14, Sl a131 r130.1 c132), (15, I r130.2.1), (16, I r130.2.2)], [(9, (51, [I 0, I 0, I 0])), (13, (51, [I x_118, I 0, I 0]))]⟩ fun a hS => ?_
   refine wseq ?_
   refine rP T hS ⟨[(1, Sl a2 l_ c2), (2, Sl a3 t_ c3), (3, I end_), (8, Pt 9 0), (12, Pt 13 0), (14, Sl a131 r130.1 c132), (15, I r130.2.1), (16, I r130.2.2), (51, B (r130.2.2 != 0))], [(9, (51, [I 0, I 0, I 0])), (13, (51, [I x_118, I 0, I 0]))]⟩ fun a hS => ?_
   refine wcond hS (b := (r130.2.2 != 0)) kr (fun hb => ?_) (fun hb => ?_)
   ·replace hm := hm.1 hb
    refine rM T hS ⟨[(8, Pt 9 0), (9, I r130.2.1), (10, I r130.2.2)], [(9, (51, [I x_118, I 0, I 0]))]⟩ fun ρ a w134 χ135 hS hE hr => ?_
    replace hO := hO.mv hE rfl rfl
    clear hE hr
    refine wret ?_
    exact fin T hS hO (fun c => c) rfl (r := [.agg #[.int .i64 x_118, .int .i64 0, .int .i64 0], .int .i64 r130.2.1, .int .i64 r130.2.2]) kr (fun χ' hM hC => ⟨((⟨x_118, 0, 0⟩ : Api_Event), r130.2.1, r130.2.2), hm, rfl⟩)
   ·replace hm := hm.2 hb
    refine wskip ?_
    refine regO ?_
    refine oP T hS 1 ⟨[(1, Sl a2 l_ c2), (2, Sl a3 t_ c3), (3, I end_), (8, Pt 9 0), (12, Pt 13 0), (14, Sl a131 r130.1 c132), (55, Sl a131 r130.1 c132)], [(9, (51, [I 0, I 0, I 0])), (13, (51, [I x_118, I 0, I 0]))]⟩ fun a hS => ?_
    obtain ⟨hq, hm⟩ := hm
    refine op1 (index (e := 3) (k := .i64) T hS kr kr kr kr h133 kr kr hq.1 hq.2 ?_)
    intro A136 a h137 hS
    clear hq
    refine op1 (load1 T hS kr kr kr h137 rfl kr ?_)
    intro v138 a hv hS
    cases hv
    refine eM T hS ⟨[(1, Sl a2 l_ c2), (2, Sl a3 t_ c3), (3, I end_), (8, Pt 9 0), (12, Pt 13 0), (14, Sl a131 r130.1 c132)], [(9, (51, [I 0, I 0, I 0])), (13, (51, [I x_118, I (gi r130.1 0), I 0]))]⟩ fun ρ a w177 χ178 hS hE hr => ?_
    replace hO := hO.mv hE rfl rfl
    replace h115 := h115.mv hE rfl
    replace h116 := h116.mv hE rfl
    replace h133 := h133.mv hE rfl
    clear hE hr
    refine regO ?_
    refine oP T hS 1 ⟨[(1, Sl a2 l_ c2), (2, Sl a3 t_ c3), (3, I end_), (8, Pt 9 0), (12, Pt 13 0), (59, Sl a131 r130.1 c132)], [(9, (51, [I 0, I 0, I 0])), (13, (51, [I x_118, I (gi r130.1 0), I 0]))]⟩ fun a hS => ?_
    obtain ⟨hq, hm⟩ := hm
    refine op1 (index (e := 3) (k := .i64) T hS kr kr kr kr h133 kr kr hq.1 hq.2 ?_)
    intro A139 a h140 hS
    clear hq
    refine op1 (load1 T hS kr kr kr h140 rfl kr ?_)
    intro v141 a hv hS
    cases hv
    refine eM T hS ⟨[(1, Sl a2 l_ c2), (2, Sl a3 t_ c3), (3, I end_), (8, Pt 9 0), (12, Pt 13 0)], [(9, (51, [I 0, I 0, I 0])), (13, (51, [I x_118, I (gi r130.1 0), I (gi r130.1 1)]))]⟩ fun ρ a w175 χ176 hS hE hr => ?_
    replace hO := hO.mv hE rfl rfl
    replace h115 := h115.mv hE rfl
    replace h116 := h116.mv hE rfl
    clear hE hr
    refine wseq ?_
    refine drawnSX [9, 13] mixed hS ?_
    intro w142 χ143 hS hE hD hH
    replace hO := hO.mv hE rfl rfl
    replace h115 := h115.mv hE rfl
    replace h116 := h116.mv hE rfl
    clear hE
    refine tk T [0, 2, 5, 3, 6, 7] [9, 13] hS hH #[true, false, true, true, false, true, true, true, false] 3 ⟨[(1, Sl a2 l_ c2), (2, Sl a3 t_ c3), (3, I end_), (8, Pt 9 0), (12, Pt 13 0), (63, Sl a2 l_ c2), (66, I (gi r130.1 0)), (70, B (x_118 == 1))], [(9, (51, [I 0, I 0, I 0])), (13, (51, [I x_118, I (gi r130.1 0), I (gi r130.1 1)]))]⟩ fun a hS => ?_
    obtain ⟨hq, hm⟩ := hm
    refine only 1 kr (by rfl) (call hS kr kr hb48 kr (fun _ _ => rfl) (k48 _ _ l_ a2 c2 hq h115) ?_)
    intro v144 a w145 χ146 hE hp hS
    clear hq
    replace hO := hO.mv hE rfl rfl
    replace hD := hD.ev hE rfl
    replace h115 := h115.mv hE rfl
    replace h116 := h116.mv hE rfl
    clear hE
    obtain ⟨a148, c149, hp, h150⟩ := hp
    obtain ⟨r147, hr⟩ : ∃ r, ref25_Open l_ = r := ⟨_, rfl⟩
    replace hm := hm r147 hr
    rw [hr] at hp h150
    clear hr
    subst hp
    replace hm := hm (h150.sm kr)
    replace hS := hS.sl ⟨[(1, Sl a2 l_ c2), (2, Sl a3 t_ c3), (3, I end_), (8, Pt 9 0), (12, Pt 13 0), (63, Sl a2 l_ c2), (66, I (gi r130.1 0)), (70, B (x_118 == 1)), (64, Sl a148 r147 c149)], [(9, (51, [I 0, I 0, I 0])), (13, (51, [I x_118, I (gi r130.1 0), I (gi r130.1 1)]))]⟩
    refine andH (Hold.of hS (bks := [9, 13]) kr hD) ?_
    intro hH
    refine only 4 kr (by rfl) (call hS kr kr hb47 kr (fun _ _ => rfl) (k47 _ _ r147 (gi r130.1 0) a148 c149 h150) ?_)
    intro v151 a w152 χ153 hE hp hS
    replace hO := hO.mv hE rfl rfl
    replace hD := hD.ev hE rfl
    replace h115 := h115.mv hE rfl
    replace h116 := h116.mv hE rfl
    replace h150 := h150.mv hE rfl
    clear hE
    obtain ⟨r154, hr⟩ : ∃ r, ref01_Has r147 (gi r130.1 0) = r := ⟨_, rfl⟩
    replace hm := hm r154 hr
    rw [hr] at hp
    clear hr
    subst hp
    replace hS := hS.sl ⟨[(1, Sl a2 l_ c2), (2, Sl a3 t_ c3), (3, I end_), (8, Pt 9 0), (12, Pt 13 0), (63, Sl a2 l_ c2), (66, I (gi r130.1 0)), (70, B (x_118 == 1)), (64, Sl a148 r147 c149), (67, B r154)], [(9, (51, [I 0, I 0, I 0])), (13, (51, [I x_118, I (gi r130.1 0), I (gi r130.1 1)]))]⟩
    refine andH (Hold.of hS (bks := [9, 13]) kr hD) ?_
    intro hH
    refine tk T [8] [9, 13] hS hH #[true, true, true, true, true, true, true, true, true] 0 ⟨[(1, Sl a2 l_ c2), (2, Sl a3 t_ c3), (3, I end_), (8, Pt 9 0), (12, Pt 13 0), (71, B (r154 == (x_118 == 1)))], [(9, (51, [I 0, I 0, I 0])), (13, (51, [I x_118, I (gi r130.1 0), I (gi r130.1 1)]))]⟩ fun a hS => ?_
    refine drawnDone kr ?_
    clear hD hH
    replace hS := hS.sl ⟨[(1, Sl a2 l_ c2), (2, Sl a3 t_ c3), (3, I end_), (8, Pt 9 0), (12, Pt 13 0), (71, B (r154 == (x_118 == 1)))], [(9, (51, [I 0, I 0, I 0])), (13, (51, [I x_118, I (gi r130.1 0), I (gi r130.1 1)]))]⟩
    refine wcond hS (b := (r154 == (x_118 == 1))) kr (fun hb => ?_) (fun hb => ?_)
    ·replace hm := hm.1 hb
     refine drawnSX [13] mixed hS ?_
     intro w155 χ156 hS hE hD hH
     replace hO := hO.mv hE rfl rfl
     replace h116 := h116.mv hE rfl
     clear hE
     refine tk T [0, 1] [13] hS hH #[true, true, false, false, false, false, false, false] 6 ⟨[(8, Pt 9 0), (72, V (.agg #[.int .i64 x_118, .int .i64 (gi r130.1 0), .int .i64 (gi r130.1 1)])), (73, Sl a3 t_ c3)], [(9, (51, [I 0, I 0, I 0])), (13, (51, [I x_118, I (gi r130.1 0), I (gi r130.1 1)]))]⟩ fun a hS => ?_
     obtain ⟨hq, hm⟩ := hm
     refine dindex (e := 102) (k := .i64) T 2 hS kr kr kr (by rfl) kr hH kr kr h116 kr kr hq.1 hq.2 ?_
     intro A157 a h158 hS
     clear hq
     have h158b := h158.here
     refine dfieldA (off := 1) (fsz := 1) (ft := 3) (TF := tI) (y := (gi t_ 0).At) 3 T hS kr kr kr (by rfl) kr hH kr h158 kr kr kr (fun cs h => Ref05_Token_f1 h) ?_
     intro A159 a h160 hbl hS
     have h160b := h158b
     rw [← hbl] at h160b
     clear hbl
     refine dload1 T 4 hS kr kr kr (by rfl) kr hH kr h160 h160b rfl kr ?_
     intro v161 a hv hS
     cases hv
     replace hS := hS.sl ⟨[(8, Pt 9 0), (72, V (.agg #[.int .i64 x_118, .int .i64 (gi r130.1 0), .int .i64 (gi r130.1 1)])), (73, Sl a3 t_ c3), (74, V (.pointer (some A157))), (75, V (.pointer (some A159))), (76, I ((gi t_ 0).At))], [(9, (51, [I 0, I 0, I 0])), (13, (51, [I x_118, I (gi r130.1 0), I (gi r130.1 1)]))]⟩
     refine only 5 kr (by rfl) (store1 T hS kr kr (sy' := ⟨[(8, Pt 9 0), (72, V (.agg #[.int .i64 x_118, .int .i64 (gi r130.1 0), .int .i64 (gi r130.1 1)])), (73, Sl a3 t_ c3), (74, V (.pointer (some A157))), (75, V (.pointer (some A159))), (76, I ((gi t_ 0).At))], [(9, (51, [I x_118, I (gi r130.1 0), I (gi r130.1 1)])), (9, (51, [I 0, I 0, I 0])), (13, (51, [I x_118, I (gi r130.1 0), I (gi r130.1 1)]))]⟩) kr ?_)
     intro a w162 χ163 hS hE
     replace hO := hO.mv hE rfl rfl
     replace hD := hD.ev hE rfl
     replace h116 := h116.mv hE rfl
     replace h158 := h158.mv hE rfl
     replace h160 := h160.mv hE rfl
     clear hE
     replace hS := hS.sl ⟨[(8, Pt 9 0), (72, V (.agg #[.int .i64 x_118, .int .i64 (gi r130.1 0), .int .i64 (gi r130.1 1)])), (73, Sl a3 t_ c3), (74, V (.pointer (some A157))), (75, V (.pointer (some A159))), (76, I ((gi t_ 0).At))], [(9, (51, [I x_118, I (gi r130.1 0), I (gi r130.1 1)])), (13, (51, [I x_118, I (gi r130.1 0), I (gi r130.1 1)]))]⟩
     refine andH (Hold.of hS (bks := [13]) kr hD) ?_
     intro hH
     refine tk T [6, 7] [13] hS hH #[true, true, true, true, true, true, true, true] 0 ⟨[(8, Pt 9 0), (9, I ((gi t_ 0).At)), (10, I 33)], [(9, (51, [I x_118, I (gi r130.1 0), I (gi r130.1 1)])), (13, (51, [I x_118, I (gi r130.1 0), I (gi r130.1 1)]))]⟩ fun a hS => ?_
     refine drawnDone kr ?_
     clear hD hH
     replace hS := hS.sl ⟨[(8, Pt 9 0), (9, I ((gi t_ 0).At)), (10, I 33)], [(9, (51, [I x_118, I (gi r130.1 0), I (gi r130.1 1)]))]⟩
     refine wret ?_
     exact fin T hS hO (fun c => c) rfl (r := [.agg #[.int .i64 x_118, .int .i64 (gi r130.1 0), .int .i64 (gi r130.1 1)], .int .i64 ((gi t_ 0).At), .int .i64 33]) kr (fun χ' hM hC => ⟨((⟨x_118, gi r130.1 0, gi r130.1 1⟩ : Api_Event), (gi t_ 0).At, 33), hm, rfl⟩)
    ·replace hm := hm.2 hb
     refine wskip ?_
     refine wseq ?_
     refine rP T hS ⟨[(2, Sl a3 t_ c3), (3, I end_), (8, Pt 9 0), (12, Pt 13 0), (79, B (((l_.length : Nat) : Int) == 10000))], [(9, (51, [I 0, I 0, I 0])), (13, (51, [I x_118, I (gi r130.1 0), I (gi r130.1 1)]))]⟩ fun a hS => ?_
     refine wcond hS (b := (((l_.length : Nat) : Int) == 10000)) kr (fun hb => ?_) (fun hb => ?_)
     ·replace hm := hm.1 hb
      refine drawnSX [13] mixed hS ?_
      intro w164 χ165 hS hE hD hH
      replace hO := hO.mv hE rfl rfl
      replace h116 := h116.mv hE rfl
      clear hE
      refine tk T [0, 1] [13] hS hH #[true, true, false, false, false, false, false, false] 6 ⟨[(8, Pt 9 0), (80, V (.agg #[.int .i64 x_118, .int .i64 (gi r130.1 0), .int .i64 (gi r130.1 1)])), (81, Sl a3 t_ c3)], [(9, (51, [I 0, I 0, I 0])), (13, (51, [I x_118, I (gi r130.1 0), I (gi r130.1 1)]))]⟩ fun a hS => ?_
      obtain ⟨hq, hm⟩ := hm
      refine dindex (e := 102) (k := .i64) T 2 hS kr kr kr (by rfl) kr hH kr kr h116 kr kr hq.1 hq.2 ?_
      intro A166 a h167 hS
      clear hq
      have h167b := h167.here
      refine dfieldA (off := 1) (fsz := 1) (ft := 3) (TF := tI) (y := (gi t_ 0).At) 3 T hS kr kr kr (by rfl) kr hH kr h167 kr kr kr (fun cs h => Ref05_Token_f1 h) ?_
      intro A168 a h169 hbl hS
      have h169b := h167b
      rw [← hbl] at h169b
      clear hbl
      refine dload1 T 4 hS kr kr kr (by rfl) kr hH kr h169 h169b rfl kr ?_
      intro v170 a hv hS
      cases hv
      replace hS := hS.sl ⟨[(8, Pt 9 0), (80, V (.agg #[.int .i64 x_118, .int .i64 (gi r130.1 0), .int .i64 (gi r130.1 1)])), (81, Sl a3 t_ c3), (82, V (.pointer (some A166))), (83, V (.pointer (some A168))), (84, I ((gi t_ 0).At))], [(9, (51, [I 0, I 0, I 0])), (13, (51, [I x_118, I (gi r130.1 0), I (gi r130.1 1)]))]⟩
      refine only 5 kr (by rfl) (store1 T hS kr kr (sy' := ⟨[(8, Pt 9 0), (80, V (.agg #[.int .i64 x_118, .int .i64 (gi r130.1 0), .int .i64 (gi r130.1 1)])), (81, Sl a3 t_ c3), (82, V (.pointer (some A166))), (83, V (.pointer (some A168))), (84, I ((gi t_ 0).At))], [(9, (51, [I x_118, I (gi r130.1 0), I (gi r130.1 1)])), (9, (51, [I 0, I 0, I 0])), (13, (51, [I x_118, I (gi r130.1 0), I (gi r130.1 1)]))]⟩) kr ?_)
      intro a w171 χ172 hS hE
      replace hO := hO.mv hE rfl rfl
      replace hD := hD.ev hE rfl
      replace h116 := h116.mv hE rfl
      replace h167 := h167.mv hE rfl
      replace h169 := h169.mv hE rfl
      clear hE
      replace hS := hS.sl ⟨[(8, Pt 9 0), (80, V (.agg #[.int .i64 x_118, .int .i64 (gi r130.1 0), .int .i64 (gi r130.1 1)])), (81, Sl a3 t_ c3), (82, V (.pointer (some A166))), (83, V (.pointer (some A168))), (84, I ((gi t_ 0).At))], [(9, (51, [I x_118, I (gi r130.1 0), I (gi r130.1 1)])), (13, (51, [I x_118, I (gi r130.1 0), I (gi r130.1 1)]))]⟩
      refine andH (Hold.of hS (bks := [13]) kr hD) ?_
      intro hH
      refine tk T [6, 7] [13] hS hH #[true, true, true, true, true, true, true, true] 0 ⟨[(8, Pt 9 0), (9, I ((gi t_ 0).At)), (10, I 3)], [(9, (51, [I x_118, I (gi r130.1 0), I (gi r130.1 1)])), (13, (51, [I x_118, I (gi r130.1 0), I (gi r130.1 1)]))]⟩ fun a hS => ?_
      refine drawnDone kr ?_
      clear hD hH
      replace hS := hS.sl ⟨[(8, Pt 9 0), (9, I ((gi t_ 0).At)), (10, I 3)], [(9, (51, [I x_118, I (gi r130.1 0), I (gi r130.1 1)]))]⟩
      refine wret ?_
      exact fin T hS hO (fun c => c) rfl (r := [.agg #[.int .i64 x_118, .int .i64 (gi r130.1 0), .int .i64 (gi r130.1 1)], .int .i64 ((gi t_ 0).At), .int .i64 3]) kr (fun χ' hM hC => ⟨((⟨x_118, gi r130.1 0, gi r130.1 1⟩ : Api_Event), (gi t_ 0).At, 3), hm, rfl⟩)
     ·replace hm := hm.2 hb
      refine wskip ?_
      refine rM T hS ⟨[(8, Pt 9 0), (9, I end_), (10, I 0)], [(9, (51, [I x_118, I (gi r130.1 0), I (gi r130.1 1)]))]⟩ fun ρ a w173 χ174 hS hE hr => ?_
      replace hO := hO.mv hE rfl rfl
      clear hE hr
      refine wret ?_
      exact fin T hS hO (fun c => c) rfl (r := [.agg #[.int .i64 x_118, .int .i64 (gi r130.1 0), .int .i64 (gi r130.1 1)], .int .i64 end_, .int .i64 0]) kr (fun χ' hM hC => ⟨((⟨x_118, gi r130.1 0, gi r130.1 1⟩ : Api_Event), end_, 0), hm, rfl⟩)
theorem C22 (k46 : S46) (k47 : S47) (k48 : S48) (v : ∀ (o_ : Api_Object) (l_ : List Api_Event) (t_ : List Ref05_Token) (end_ : Int), preEv1 o_ l_ t_ end_ → VC22 o_ l_ t_ end_ (fun r => r = ref26_one o_ l_ t_ end_)) : S22 := by
 intro w χ o_ l_ t_ end_ a1 c1 a2 c2 a3 c3   hp h1 h2 h3
 refine (W22 k46 k47 k48 w χ o_ l_ t_ end_ a1 c1 a2 c2 a3 c3   _ (v o_ l_ t_ end_ hp) h1 h2 h3).mono ?_
 rintro _ _ _ _ ⟨r, rfl, h⟩
 exact h
/-- replevin/replevinref26.Parse -/
theorem W9 (k19 : S19) (k20 : S20) (k21 : S21) (k22 : S22) (w0 : World) (χ0 : Nat → Nat) (s_ : List UInt8) (Q : Api_Object × (List Api_Event) × Int × Int → Prop) (hm : VC9 s_ Q) :
  Ret Tryd.prog 9 #[.string (bs s_)] xnone w0 χ0 (fun w χ' v => ∃ r, Q r ∧ ∃ (ra1 : Option Addr) (rc1 : Nat) (ra2 : Option Addr) (rc2 : Nat), v = .tuple #[.agg #[.int .i64 r.1.States, .int .i64 r.1.Kinds, .int .i64 r.1.Init, .slice ra1 r.1.Rows.length rc1], .slice ra2 r.2.1.length rc2, .int .i64 r.2.2.1, .int .i64 r.2.2.2] ∧ RS tApi_Row w χ' ra1 r.1.Rows rc1 ∧ RS tApi_Event w χ' ra2 r.2.1 rc2) := by
 unfold VC9 at hm
 refine enter Tryd.func9 rfl (vals := [.string (bs s_)]) kr ?_
 intro ρ a hS hO hM
 clear hM
 refine rM T hS ⟨[(0, Z s_), (2, Pt 3 0)], [(3, (25, [I 0, I 0, I 0, V (.slice none 0 0)]))]⟩ fun ρ a w204 χ205 hS hE hr => ?_
 replace hO := hO.mv hE rfl rfl
 clear hE hr
 refine wseq ?_
 refine rP T hS ⟨[(0, Z s_), (2, Pt 3 0), (18, B (decide (((s_.length : Nat) : Int) > 1000000)))], [(3, (25, [I 0, I 0, I 0, V (.slice none 0 0)]))]⟩ fun a hS => ?_
 refine wcond hS (b := decide (((s_.length : Nat) : Int) > 1000000)) kr (fun hb => ?_) (fun hb => ?_)
 ·replace hm := hm.1 hb
  refine rM T hS ⟨[(2, Pt 3 0), (3, V (.slice none 0 0)), (4, I 0), (5, I 3)], [(3, (25, [I 0, I 0, I 0, V (.slice none 0 0)]))]⟩ fun ρ a w101 χ102 hS hE hr => ?_
  replace hO := hO.mv hE rfl rfl
  clear hE hr
  refine wret ?_
  exact fin T hS hO (fun c => c) rfl (r := [.agg #[.int .i64 0, .int .i64 0, .int .i64 0, .slice none 0 0], .slice none 0 0, .int .i64 0, .int .i64 3]) kr (fun χ' hM hC => ⟨((⟨0, 0, 0, []⟩ : Api_Object), [], 0, 3), hm, none, 0, none, 0, rfl, RS.empty _ _ _, RS.empty _ _ _⟩)
 ·replace hm := hm.2 hb
  refine wskip ?_
  refine regO ?_
  refine oP T hS 1 ⟨[(0, Z s_), (2, Pt 3 0), (20, Z s_)], [(3, (25, [I 0, I 0, I 0, V (.slice none 0 0)]))]⟩ fun a hS => ?_
  obtain ⟨hq, hm⟩ := hm
  refine op1 (call hS kr kr hb20 kr (fun _ _ => rfl) (k20 _ _ s_ hq) ?_)
  intro v103 a w104 χ105 hE hp hS
  clear hq
  replace hO := hO.mv hE rfl rfl
  clear hE
  obtain ⟨a107, c108, hp, h109⟩ := hp
  obtain ⟨r106, hr⟩ : ∃ r, ref05_Lines s_ = r := ⟨_, rfl⟩
  replace hm := hm r106 hr
  rw [hr] at hp h109
  clear hr
  subst hp
  replace hm := hm (h109.sm kr)
  obtain ⟨hq, hm⟩ := hm
  refine op1 (call hS kr kr hb19 kr (fun _ _ => rfl) (k19 _ _ r106 a107 c108 hq h109) ?_)
  intro v110 a w111 χ112 hE hp hS
  clear hq
  replace hO := hO.mv hE rfl rfl
  replace h109 := h109.mv hE rfl
  clear hE
  obtain ⟨a114, c115, hp, h116⟩ := hp
  obtain ⟨r113, hr⟩ : ∃ r, ref24_Said r106 = r := ⟨_, rfl⟩
  replace hm := hm r113 hr
  rw [hr] at hp h116
  clear hr
  subst hp
  replace hm := hm (h116.sm kr)
  refine eP T hS ⟨[(0, Z s_), (2, Pt 3 0), (6, Sl a114 r113 c115)], [(3, (25, [I 0, I 0, I 0, V (.slice none 0 0)]))]⟩ fun a hS => ?_
  refine regO ?_
  refine oP T hS 3 ⟨[(0, Z s_), (2, Pt 3 0), (6, Sl a114 r113 c115), (24, Sl a114 r113 c115), (26, I ((s_.length : Nat) : Int))], [(3, (25, [I 0, I 0, I 0, V (.slice none 0 0)]))]⟩ fun a hS => ?_
  obtain ⟨hq, hm⟩ := hm
  refine op1 (call hS kr kr hb21 kr (fun _ _ => rfl) (k21 _ _ r113 ((s_.length : Nat) : Int) a114 c115 hq h116) ?_)
  intro v117 a w118 χ119 hE hp hS
  clear hq
  replace hO := hO.mv hE rfl rfl
  replace h116 := h116.mv hE rfl
  clear hE
  obtain ⟨a121, c122, hp, h123⟩ := hp
  obtain ⟨r120, hr⟩ : ∃ r, ref24_Take r113 ((s_.length : Nat) : Int) = r := ⟨_, rfl⟩
  replace hm := hm r120 hr
  rw [hr] at hp h123
  clear hr
  subst hp
  replace hm := hm (h123.sm kr)
  refine eM T hS ⟨[(0, Z s_), (2, Pt 3 0), (6, Sl a114 r113 c115), (7, Pt 8 0), (8, I r120.2.1), (9, I r120.2.2.1), (10, I r120.2.2.2)], [(3, (25, [I 0, I 0, I 0, V (.slice none 0 0)])), (8, (25, [I r120.1.States, I r120.1.Kinds, I r120.1.Init, Sl a121 r120.1.Rows c122]))]⟩ fun ρ a w202 χ203 hS hE hr => ?_
  replace hO := hO.mv hE rfl rfl
  replace h116 := h116.mv hE rfl
  replace h123 := h123.mv hE rfl
  clear hE hr
  refine wseq ?_
  refine rP T hS ⟨[(0, Z s_), (2, Pt 3 0), (6, Sl a114 r113 c115), (7, Pt 8 0), (8, I r120.2.1), (9, I r120.2.2.1), (10, I r120.2.2.2), (33, B (r120.2.2.2 != 0))], [(3, (25, [I 0, I 0, I 0, V (.slice none 0 0)])), (8, (25, [I r120.1.States, I r120.1.Kinds, I r120.1.Init, Sl a121 r120.1.Rows c122]))]⟩ fun a hS => ?_
  refine wcond hS (b := (r120.2.2.2 != 0)) kr (fun hb => ?_) (fun hb => ?_)
  ·replace hm := hm.1 hb
   refine rM T hS ⟨[(2, Pt 3 0), (3, V (.slice none 0 0)), (4, I r120.2.2.1), (5, I r120.2.2.2)], [(3, (25, [I 0, I 0, I 0, V (.slice none 0 0)]))]⟩ fun ρ a w124 χ125 hS hE hr => ?_
   replace hO := hO.mv hE rfl rfl
   clear hE hr
   refine wret ?_
   exact fin T hS hO (fun c => c) rfl (r := [.agg #[.int .i64 0, .int .i64 0, .int .i64 0, .slice none 0 0], .slice none 0 0, .int .i64 r120.2.2.1, .int .i64 r120.2.2.2]) kr (fun χ' hM hC => ⟨((⟨0, 0, 0, []⟩ : Api_Object), [], r120.2.2.1, r120.2.2.2), hm, none, 0, none, 0, rfl, RS.empty _ _ _, RS.empty _ _ _⟩)
  ·replace hm := hm.2 hb
   refine wskip ?_
   refine rP T hS ⟨[(0, Z s_), (2, Pt 3 0), (6, Sl a114 r113 c115), (7, Pt 8 0), (8, I r120.2.1), (11, V (.slice none 0 0))], [(3, (25, [I 0, I 0, I 0, V (.slice none 0 0)])), (8, (25, [I r120.1.States, I r120.1.Kinds, I r120.1.Init, Sl a121 r120.1.Rows c122]))]⟩ fun a hS => ?_
   refine wcut (fun a w => ∃ (ρ : Nat → Nat) (χ : Nat → Nat) (out_126 : List Api_Event) (a127 : Option Addr) (c128 : Nat), VC9_J1 s_ Q r120 out_126 ∧ St Tryd.f9.ntmps ⟨[(0, Z s_), (2, Pt 3 0), (7, Pt 8 0), (11, Sl a127 out_126 c128)], [(3, (25, [I 0, I 0, I 0, V (.slice none 0 0)])), (8, (25, [I r120.1.States, I r120.1.Kinds, I r120.1.Init, Sl a121 r120.1.Rows c122]))]⟩ ρ a w χ ∧ Old w0 χ0 w χ ∧ OS tApi_Event 51 w χ 1004 a127 out_126 c128 ∧ RS tApi_Row w χ a121 r120.1.Rows c122) ?_ ?_
   ·refine rP T hS ⟨[(0, Z s_), (2, Pt 3 0), (6, Sl a114 r113 c115), (7, Pt 8 0), (11, V (.slice none 0 0)), (12, I r120.2.1)], [(3, (25, [I 0, I 0, I 0, V (.slice none 0 0)])), (8, (25, [I r120.1.States, I r120.1.Kinds, I r120.1.Init, Sl a121 r120.1.Rows c122]))]⟩ fun a hS => ?_
    refine wblock ?_
    obtain ⟨I1, μ1, hm0, hm⟩ := hm
    refine wloop (σ := (List Api_Event) × Int) (fun s a w => ∃ (ρ : Nat → Nat) (χ : Nat → Nat) (a137 : Option Addr) (c138 : Nat), I1 s.1 s.2 ∧ St Tryd.f9.ntmps ⟨[(0, Z s_), (2, Pt 3 0), (6, Sl a114 r113 c115), (7, Pt 8 0), (11, Sl a137 s.1 c138), (12, I s.2)], [(3, (25, [I 0, I 0, I 0, V (.slice none 0 0)])), (8, (25, [I r120.1.States, I r120.1.Kinds, I r120.1.Init, Sl a121 r120.1.Rows c122]))]⟩ ρ a w χ ∧ Old w0 χ0 w χ ∧ RS (tSlice tRef05_Token) w χ a114 r113 c115 ∧ OS tApi_Event 51 w χ 1004 a137 s.1 c138 ∧ RS tApi_Row w χ a121 r120.1.Rows c122) (fun s => μ1 s.1 s.2) (⟨[], r120.2.1⟩) ?_ ?_
    ·exact ⟨ρ, _, none, 0, hm0, hS.sl _, hO, h116, (OS.nil _ _ _ _ _), h123⟩
    ·rintro ⟨out_136, i_140⟩ a w199 ⟨ρ, χ198, a137, c138, hI, hS, hO, h135, h139, h141⟩
     replace hm := hm out_136 i_140 hI
     clear hI hm0
     refine wseq ?_
     refine rP T hS ⟨[(0, Z s_), (2, Pt 3 0), (6, Sl a114 r113 c115), (7, Pt 8 0), (11, Sl a137 out_136 c138), (12, I i_140), (41, B (decide (i_140 < ((r113.length : Nat) : Int))))], [(3, (25, [I 0, I 0, I 0, V (.slice none 0 0)])), (8, (25, [I r120.1.States, I r120.1.Kinds, I r120.1.Init, Sl a121 r120.1.Rows c122]))]⟩ fun a hS => ?_
     refine wcond hS (b := decide (i_140 < ((r113.length : Nat) : Int))) kr (fun hb => ?_) (fun hb => ?_)
     ·replace hm := hm.1 hb
      refine wskip ?_
      refine wseq ?_
      refine wblock ?_
      refine drawnSX [3, 8] mixed hS ?_
      intro w142 χ143 hS hE hD hH
      replace hO := hO.mv hE rfl rfl
      replace h135 := h135.mv hE rfl
      replace h139 := h139.mv hE rfl rfl
      replace h141 := h141.mv hE rfl
      clear hE
      refine tk T [0, 1, 2, 3, 6, 7] [3, 8] hS hH #[true, true, true, true, false, false, true, true, false, false, false, false, false, false, false, false, false] 11 ⟨[(0, Z s_), (2, Pt 3 0), (6, Sl a114 r113 c115), (7, Pt 8 0), (11, Sl a137 out_136 c138), (12, I i_140), (45, V (.agg #[.int .i64 r120.1.States, .int .i64 r120.1.Kinds, .int .i64 r120.1.Init, .slice a121 r120.1.Rows.length c122])), (46, Sl a137 out_136 c138), (47, Sl a114 r113 c115), (48, I i_140), (52, I ((s_.length : Nat) : Int))], [(3, (25, [I 0, I 0, I 0, V (.slice none 0 0)])), (8, (25, [I r120.1.States, I r120.1.Kinds, I r120.1.Init, Sl a121 r120.1.Rows c122]))]⟩ fun a hS => ?_
      obtain ⟨hq, hm⟩ := hm
      refine dindex (e := 64) (k := .i64) T 4 hS kr kr kr (by rfl) kr hH kr kr h135 kr kr hq.1 hq.2 ?_
      intro A144 a h145 hS
      clear hq
      have h145b := h145.here
      refine dload1 T 5 hS kr kr kr (by rfl) kr hH kr h145 h145b rfl kr ?_
      intro v146 a hv hS
      obtain ⟨a147, c148, hv, h149⟩ := hv
      cases hv
      replace hm := hm (h149.sm kr)
      obtain ⟨hgp8, hm⟩ := hm
      obtain ⟨r153, hgr8⟩ : ∃ r, ref26_one r120.1 out_136 (gi r113 i_140) ((s_.length : Nat) : Int) = r := ⟨_, rfl⟩
      replace hm := hm r153 hgr8
      obtain ⟨ρz167, hρz⟩ : ∃ q : Nat → Nat, q = ρ := ⟨ρ, rfl⟩
      subst hρz
      refine drcut (fun a w => ∃ (ρ : Nat → Nat) (χ : Nat → Nat), (∀ id, id ≠ 14 → ρ id = ρz167 id) ∧ St Tryd.f9.ntmps ⟨[(0, Z s_), (2, Pt 3 0), (6, Sl a114 r113 c115), (7, Pt 8 0), (11, Sl a137 out_136 c138), (12, I i_140), (13, Pt 14 0), (54, V (.agg #[.int .i64 r153.1.What, .int .i64 r153.1.Prc, .int .i64 r153.1.N])), (55, I r153.2.1), (56, I r153.2.2)], [(3, (25, [I 0, I 0, I 0, V (.slice none 0 0)])), (8, (25, [I r120.1.States, I r120.1.Kinds, I r120.1.Init, Sl a121 r120.1.Rows c122])), (14, (51, [I 0, I 0, I 0]))]⟩ ρ a w χ ∧ Old w0 χ0 w χ ∧ M0 w142 χ143 w χ ∧ Hold w142 χ143 (filt [3, 8] ⟨[(0, Z s_), (2, Pt 3 0), (6, Sl a114 r113 c115), (7, Pt 8 0), (11, Sl a137 out_136 c138), (12, I i_140)], [(3, (25, [I 0, I 0, I 0, V (.slice none 0 0)])), (8, (25, [I r120.1.States, I r120.1.Kinds, I r120.1.Init, Sl a121 r120.1.Rows c122]))]⟩) ρz167 w ∧ RS (tSlice tRef05_Token) w χ a114 r113 c115 ∧ OS tApi_Event 51 w χ 1004 a137 out_136 c138 ∧ RS tApi_Row w χ a121 r120.1.Rows c122) #[true, true, true, true, true, true, true, true, true, true, true, true, true, true, false, false, false] 3 ?_ (fun H => ?_)
      ·rintro a w184 ⟨ρ, χ183, hr168, hS, hO, hD, hH, h164, h165, h166⟩
       clear hgp8 hgr8
       replace hS := hS.sl ⟨[(0, Z s_), (2, Pt 3 0), (6, Sl a114 r113 c115), (7, Pt 8 0), (11, Sl a137 out_136 c138), (12, I i_140), (13, Pt 14 0), (54, V (.agg #[.int .i64 r153.1.What, .int .i64 r153.1.Prc, .int .i64 r153.1.N])), (55, I r153.2.1), (56, I r153.2.2)], [(3, (25, [I 0, I 0, I 0, V (.slice none 0 0)])), (8, (25, [I r120.1.States, I r120.1.Kinds, I r120.1.Init, Sl a121 r120.1.Rows c122])), (14, (51, [I 0, I 0, I 0]))]⟩
       refine only 14 kr (by rfl) (store1 T hS kr kr (sy' := ⟨[(0, Z s_), (2, Pt 3 0), (6, Sl a114 r113 c115), (7, Pt 8 0), (11, Sl a137 out_136 c138), (12, I i_140), (13, Pt 14 0), (54, V (.agg #[.int .i64 r153.1.What, .int .i64 r153.1.Prc, .int .i64 r153.1.N])), (55, I r153.2.1), (56, I r153.2.2)], [(14, (51, [I r153.1.What, I r153.1.Prc, I r153.1.N])), (3, (25, [I 0, I 0, I 0, V (.slice none 0 0)])), (8, (25, [I r120.1.States, I r120.1.Kinds, I r120.1.Init, Sl a121 r120.1.Rows c122])), (14, (51, [I 0, I 0, I 0]))]⟩) kr ?_)
       intro a w185 χ186 hS hE
       replace hO := hO.mv hE rfl rfl
       replace hD := hD.ev hE rfl
       replace h164 := h164.mv hE rfl
       replace h165 := h165.mv hE rfl rfl
       replace h166 := h166.mv hE rfl
       clear hE
       replace hS := hS.sl ⟨[(0, Z s_), (2, Pt 3 0), (6, Sl a114 r113 c115), (7, Pt 8 0), (11, Sl a137 out_136 c138), (12, I i_140), (13, Pt 14 0), (54, V (.agg #[.int .i64 r153.1.What, .int .i64 r153.1.Prc, .int .i64 r153.1.N])), (55, I r153.2.1), (56, I r153.2.2)], [(3, (25, [I 0, I 0, I 0, V (.slice none 0 0)])), (8, (25, [I r120.1.States, I r120.1.Kinds, I r120.1.Init, Sl a121 r120.1.Rows c122])), (14, (51, [I r153.1.What, I r153.1.Prc, I r153.1.N]))]⟩
       refine andH ((Hold.of hS (bks := [3, 8]) kr hD).rho hr168 kr) ?_
       intro hH
       refine takeZ T hr168 kr [15, 16] [3, 8] [0, 2, 6, 7, 11, 12, 13, 14, 15] hS kr kr kr hH (listed' := #[true, true, true, true, true, true, true, true, true, true, true, true, true, true, true, true, true]) (fuel := 0) (sy' := ⟨[(0, Z s_), (2, Pt 3 0), (6, Sl a114 r113 c115), (7, Pt 8 0), (11, Sl a137 out_136 c138), (12, I i_140), (13, Pt 14 0), (14, I r153.2.1), (15, I r153.2.2)], [(3, (25, [I 0, I 0, I 0, V (.slice none 0 0)])), (8, (25, [I r120.1.States, I r120.1.Kinds, I r120.1.Init, Sl a121 r120.1.Rows c122])), (14, (51, [I r153.1.What, I r153.1.Prc, I r153.1.N]))]⟩) kr (by rfl) ?_
       intro a hS
       refine drawnDone kr ?_
       clear hD hH
       replace hS := hS.sl ⟨[(0, Z s_), (2, Pt 3 0), (6, Sl a114 r113 c115), (7, Pt 8 0), (11, Sl a137 out_136 c138), (12, I i_140), (13, Pt 14 0), (14, I r153.2.1), (15, I r153.2.2)], [(3, (25, [I 0, I 0, I 0, V (.slice none 0 0)])), (8, (25, [I r120.1.States, I r120.1.Kinds, I r120.1.Init, Sl a121 r120.1.Rows c122])), (14, (51, [I r153.1.What, I r153.1.Prc, I r153.1.N]))]⟩
       refine wseq ?_
       refine rP T hS ⟨[(0, Z s_), (2, Pt 3 0), (6, Sl a114 r113 c115), (7, Pt 8 0), (11, Sl a137 out_136 c138), (12, I i_140), (13, Pt 14 0), (14, I r153.2.1), (15, I r153.2.2), (58, B (r153.2.2 != 0))], [(3, (25, [I 0, I 0, I 0, V (.slice none 0 0)])), (8, (25, [I r120.1.States, I r120.1.Kinds, I r120.1.Init, Sl a121 r120.1.Rows c122])), (14, (51, [I r153.1.What, I r153.1.Prc, I r153.1.N]))]⟩ fun a hS => ?_
       refine wcond hS (b := (r153.2.2 != 0)) kr (fun hb => ?_) (fun hb => ?_)
       ·replace hm := hm.1 hb
        refine rM T hS ⟨[(2, Pt 3 0), (3, V (.slice none 0 0)), (4, I r153.2.1), (5, I r153.2.2)], [(3, (25, [I 0, I 0, I 0, V (.slice none 0 0)]))]⟩ fun ρ a w187 χ188 hS hE hr => ?_
        replace hO := hO.mv hE rfl rfl
        clear hE hr
        refine wret ?_
        exact fin T hS hO (fun c => c) rfl (r := [.agg #[.int .i64 0, .int .i64 0, .int .i64 0, .slice none 0 0], .slice none 0 0, .int .i64 r153.2.1, .int .i64 r153.2.2]) kr (fun χ' hM hC => ⟨((⟨0, 0, 0, []⟩ : Api_Object), [], r153.2.1, r153.2.2), hm, none, 0, none, 0, rfl, RS.empty _ _ _, RS.empty _ _ _⟩)
       ·replace hm := hm.2 hb
        refine wskip ?_
        refine region ?_
        refine oP T hS 2 ⟨[(0, Z s_), (2, Pt 3 0), (6, Sl a114 r113 c115), (7, Pt 8 0), (11, Sl a137 out_136 c138), (12, I i_140), (62, Sl a137 out_136 c138), (63, V (.agg #[.int .i64 r153.1.What, .int .i64 r153.1.Prc, .int .i64 r153.1.N]))], [(3, (25, [I 0, I 0, I 0, V (.slice none 0 0)])), (8, (25, [I r120.1.States, I r120.1.Kinds, I r120.1.Init, Sl a121 r120.1.Rows c122]))]⟩ fun a hS => ?_
        refine op1 (lit (E := 51) (col := 0) (T := tApi_Event) (vals := [.agg #[.int .i64 r153.1.What, .int .i64 r153.1.Prc, .int .i64 r153.1.N]]) (ys := [r153.1]) T hS kr kr kr kr (by exact ⟨rfl, trivial⟩) rfl kr kr kr kr ?_)
        intro b189 a w190 χ191 hE h192 hN hS
        clear hN
        replace hO := hO.mv hE rfl rfl
        replace h164 := h164.mv hE rfl
        replace h165 := h165.mv hE rfl rfl
        replace h166 := h166.mv hE rfl
        clear hE
        replace h192 := h192.rs0
        obtain ⟨hq, hm⟩ := hm
        obtain ⟨news, hN⟩ := h192.src
        refine op1 (append (E := 51) (T := tApi_Event) (col := 1004) (xs := out_136) T hS kr kr kr kr h165 hN kr kr kr kr hq ?_)
        intro a196 c197 a w193 χ194 hE h195 hS
        clear hq hN
        clear h165
        replace hO := hO.mv hE rfl rfl
        replace h164 := h164.mv hE rfl
        replace h166 := h166.mv hE rfl
        replace h192 := h192.mv hE rfl
        clear hE
        refine eP T hS ⟨[(0, Z s_), (2, Pt 3 0), (6, Sl a114 r113 c115), (7, Pt 8 0), (11, Sl a196 (out_136 ++ [r153.1]) c197), (12, I i_140)], [(3, (25, [I 0, I 0, I 0, V (.slice none 0 0)])), (8, (25, [I r120.1.States, I r120.1.Kinds, I r120.1.Init, Sl a121 r120.1.Rows c122]))]⟩ fun a hS => ?_
        refine region (eP T hS ⟨[(0, Z s_), (2, Pt 3 0), (6, Sl a114 r113 c115), (7, Pt 8 0), (11, Sl a196 (out_136 ++ [r153.1]) c197), (12, I (IntKind.i64.wrap (i_140 + 1)))], [(3, (25, [I 0, I 0, I 0, V (.slice none 0 0)])), (8, (25, [I r120.1.States, I r120.1.Kinds, I r120.1.Init, Sl a121 r120.1.Rows c122]))]⟩ fun a hS => ?_)
        exact ⟨⟨out_136 ++ [r153.1], IntKind.i64.wrap (i_140 + 1)⟩, ⟨ρ, _, a196, c197, hm.1, hS.sl _, hO, h164, h195, h166⟩, hm.2⟩
      ·clear hm
       refine anyOf (is := [8, 13]) kr (by decide) ?_
       intro i hi
       obtain ⟨ρ, hρz⟩ : ∃ q : Nat → Nat, q = ρz167 := ⟨ρz167, rfl⟩
       subst hρz
       rcases mem2 hi with rfl | rfl
       ·have hq := hgp8
        refine oneOp (by rfl) (call hS kr kr hb22 kr (fun _ _ => rfl) (Ret.unlend (k22 _ (lend 1004 _) r120.1 out_136 (gi r113 i_140) ((s_.length : Nat) : Int) a121 c122 a137 c138 a147 c148 hq (h141.m0 (M0.lend 1004)) h139.lend (h149.m0 (M0.lend 1004)))) ?_)
        intro v169 a w170 χ171 hE hp hS
        clear hq
        replace hO := hO.mv hE rfl rfl
        replace hD := hD.ev hE rfl
        replace h135 := h135.mv hE rfl
        replace h139 := h139.mv hE rfl rfl
        replace h141 := h141.mv hE rfl
        replace h145 := h145.mv hE rfl
        replace h149 := h149.mv hE rfl
        clear hE
        obtain ⟨_, hp⟩ := hp
        rw [hgr8] at hp
        subst hp
        replace hS := hS.sl ⟨[(0, Z s_), (2, Pt 3 0), (6, Sl a114 r113 c115), (7, Pt 8 0), (11, Sl a137 out_136 c138), (12, I i_140), (45, V (.agg #[.int .i64 r120.1.States, .int .i64 r120.1.Kinds, .int .i64 r120.1.Init, .slice a121 r120.1.Rows.length c122])), (46, Sl a137 out_136 c138), (47, Sl a114 r113 c115), (48, I i_140), (52, I ((s_.length : Nat) : Int)), (49, V (.pointer (some A144))), (50, Sl a147 (gi r113 i_140) c148), (53, V (.tuple #[.agg #[.int .i64 r153.1.What, .int .i64 r153.1.Prc, .int .i64 r153.1.N], .int .i64 r153.2.1, .int .i64 r153.2.2]))], [(3, (25, [I 0, I 0, I 0, V (.slice none 0 0)])), (8, (25, [I r120.1.States, I r120.1.Kinds, I r120.1.Init, Sl a121 r120.1.Rows c122]))]⟩
        refine andH (Hold.of hS (bks := [3, 8]) kr hD) ?_
        intro hH
        refine tk T [9, 10, 11, 12] [3, 8] hS hH #[true, true, true, true, true, true, true, true, true, true, true, true, true, false, false, false, false] 4 ⟨[(0, Z s_), (2, Pt 3 0), (6, Sl a114 r113 c115), (7, Pt 8 0), (11, Sl a137 out_136 c138), (12, I i_140), (54, V (.agg #[.int .i64 r153.1.What, .int .i64 r153.1.Prc, .int .i64 r153.1.N])), (55, I r153.2.1), (56, I r153.2.2)], [(3, (25, [I 0, I 0, I 0, V (.slice none 0 0)])), (8, (25, [I r120.1.States, I r120.1.Kinds, I r120.1.Init, Sl a121 r120.1.Rows c122]))]⟩ fun a hS => ?_
        replace hS := hS.sl ⟨[(0, Z s_), (2, Pt 3 0), (6, Sl a114 r113 c115), (7, Pt 8 0), (11, Sl a137 out_136 c138), (12, I i_140), (54, V (.agg #[.int .i64 r153.1.What, .int .i64 r153.1.Prc, .int .i64 r153.1.N])), (55, I r153.2.1), (56, I r153.2.2)], [(3, (25, [I 0, I 0, I 0, V (.slice none 0 0)])), (8, (25, [I r120.1.States, I r120.1.Kinds, I r120.1.Init, Sl a121 r120.1.Rows c122]))]⟩
        refine only 13 kr (by rfl) (box1 T hS kr kr kr (sy' := ⟨[(13, Pt 14 0), (0, Z s_), (2, Pt 3 0), (6, Sl a114 r113 c115), (7, Pt 8 0), (11, Sl a137 out_136 c138), (12, I i_140), (54, V (.agg #[.int .i64 r153.1.What, .int .i64 r153.1.Prc, .int .i64 r153.1.N])), (55, I r153.2.1), (56, I r153.2.2)], [(14, (51, [I 0, I 0, I 0])), (3, (25, [I 0, I 0, I 0, V (.slice none 0 0)])), (8, (25, [I r120.1.States, I r120.1.Kinds, I r120.1.Init, Sl a121 r120.1.Rows c122]))]⟩) kr ?_)
        intro ρ a w173 χ174 hS hE hr175
        replace hO := hO.mv hE rfl rfl
        replace hD := hD.ev hE rfl
        replace h135 := h135.mv hE rfl
        replace h139 := h139.mv hE rfl rfl
        replace h141 := h141.mv hE rfl
        replace h145 := h145.mv hE rfl
        replace h149 := h149.mv hE rfl
        clear hE
        replace hS := hS.sl ⟨[(0, Z s_), (2, Pt 3 0), (6, Sl a114 r113 c115), (7, Pt 8 0), (11, Sl a137 out_136 c138), (12, I i_140), (54, V (.agg #[.int .i64 r153.1.What, .int .i64 r153.1.Prc, .int .i64 r153.1.N])), (55, I r153.2.1), (56, I r153.2.2), (13, Pt 14 0)], [(3, (25, [I 0, I 0, I 0, V (.slice none 0 0)])), (8, (25, [I r120.1.States, I r120.1.Kinds, I r120.1.Init, Sl a121 r120.1.Rows c122])), (14, (51, [I 0, I 0, I 0]))]⟩
        refine andH ((Hold.of hS (bks := [3, 8]) kr hD).rho hr175 kr) ?_
        intro hH
        exact H _ _ ⟨ρ, _, hr175, hS.sl _, hO, hD, hH, h135, h139, h141⟩
       ·replace hS := hS.sl ⟨[(0, Z s_), (2, Pt 3 0), (6, Sl a114 r113 c115), (7, Pt 8 0), (11, Sl a137 out_136 c138), (12, I i_140), (45, V (.agg #[.int .i64 r120.1.States, .int .i64 r120.1.Kinds, .int .i64 r120.1.Init, .slice a121 r120.1.Rows.length c122])), (46, Sl a137 out_136 c138), (47, Sl a114 r113 c115), (48, I i_140), (52, I ((s_.length : Nat) : Int)), (49, V (.pointer (some A144))), (50, Sl a147 (gi r113 i_140) c148)], [(3, (25, [I 0, I 0, I 0, V (.slice none 0 0)])), (8, (25, [I r120.1.States, I r120.1.Kinds, I r120.1.Init, Sl a121 r120.1.Rows c122]))]⟩
        refine oneOp (by rfl) (box1 T hS kr kr kr (sy' := ⟨[(13, Pt 14 0), (0, Z s_), (2, Pt 3 0), (6, Sl a114 r113 c115), (7, Pt 8 0), (11, Sl a137 out_136 c138), (12, I i_140), (45, V (.agg #[.int .i64 r120.1.States, .int .i64 r120.1.Kinds, .int .i64 r120.1.Init, .slice a121 r120.1.Rows.length c122])), (46, Sl a137 out_136 c138), (47, Sl a114 r113 c115), (48, I i_140), (52, I ((s_.length : Nat) : Int)), (49, V (.pointer (some A144))), (50, Sl a147 (gi r113 i_140) c148)], [(14, (51, [I 0, I 0, I 0])), (3, (25, [I 0, I 0, I 0, V (.slice none 0 0)])), (8, (25, [I r120.1.States, I r120.1.Kinds, I r120.1.Init, Sl a121 r120.1.Rows c122]))]⟩) kr ?_)
        intro ρ a w176 χ177 hS hE hr178
        replace hO := hO.mv hE rfl rfl
        replace hD := hD.ev hE rfl
        replace h135 := h135.mv hE rfl
        replace h139 := h139.mv hE rfl rfl
        replace h141 := h141.mv hE rfl
        replace h145 := h145.mv hE rfl
        replace h149 := h149.mv hE rfl
        clear hE
        replace hS := hS.sl ⟨[(0, Z s_), (2, Pt 3 0), (6, Sl a114 r113 c115), (7, Pt 8 0), (11, Sl a137 out_136 c138), (12, I i_140), (45, V (.agg #[.int .i64 r120.1.States, .int .i64 r120.1.Kinds, .int .i64 r120.1.Init, .slice a121 r120.1.Rows.length c122])), (46, Sl a137 out_136 c138), (47, Sl a114 r113 c115), (48, I i_140), (52, I ((s_.length : Nat) : Int)), (49, V (.pointer (some A144))), (50, Sl a147 (gi r113 i_140) c148), (13, Pt 14 0)], [(3, (25, [I 0, I 0, I 0, V (.slice none 0 0)])), (8, (25, [I r120.1.States, I r120.1.Kinds, I r120.1.Init, Sl a121 r120.1.Rows c122])), (14, (51, [I 0, I 0, I 0]))]⟩
        refine andH ((Hold.of hS (bks := [3, 8]) kr hD).rho hr178 kr) ?_
        intro hH
        have hq := hgp8
        refine only 8 kr (by rfl) (call hS kr kr hb22 kr (fun _ _ => rfl) (Ret.unlend (k22 _ (lend 1004 _) r120.1 out_136 (gi r113 i_140) ((s_.length : Nat) : Int) a121 c122 a137 c138 a147 c148 hq (h141.m0 (M0.lend 1004)) h139.lend (h149.m0 (M0.lend 1004)))) ?_)
        intro v179 a w180 χ181 hE hp hS
        clear hq
        replace hO := hO.mv hE rfl rfl
        replace hD := hD.ev hE rfl
        replace h135 := h135.mv hE rfl
        replace h139 := h139.mv hE rfl rfl
        replace h141 := h141.mv hE rfl
        replace h145 := h145.mv hE rfl
        replace h149 := h149.mv hE rfl
        clear hE
        obtain ⟨_, hp⟩ := hp
        rw [hgr8] at hp
        subst hp
        replace hS := hS.sl ⟨[(0, Z s_), (2, Pt 3 0), (6, Sl a114 r113 c115), (7, Pt 8 0), (11, Sl a137 out_136 c138), (12, I i_140), (45, V (.agg #[.int .i64 r120.1.States, .int .i64 r120.1.Kinds, .int .i64 r120.1.Init, .slice a121 r120.1.Rows.length c122])), (46, Sl a137 out_136 c138), (47, Sl a114 r113 c115), (48, I i_140), (52, I ((s_.length : Nat) : Int)), (49, V (.pointer (some A144))), (50, Sl a147 (gi r113 i_140) c148), (13, Pt 14 0), (53, V (.tuple #[.agg #[.int .i64 r153.1.What, .int .i64 r153.1.Prc, .int .i64 r153.1.N], .int .i64 r153.2.1, .int .i64 r153.2.2]))], [(3, (25, [I 0, I 0, I 0, V (.slice none 0 0)])), (8, (25, [I r120.1.States, I r120.1.Kinds, I r120.1.Init, Sl a121 r120.1.Rows c122])), (14, (51, [I 0, I 0, I 0]))]⟩
        refine andH ((Hold.of hS (bks := [3, 8]) kr hD).rho hr178 kr) ?_
        intro hH
        refine takeZ T hr178 kr [9, 10, 11, 12] [3, 8] [0, 2, 6, 7, 11, 12, 13, 54, 55, 56] hS kr kr kr hH (listed' := #[true, true, true, true, true, true, true, true, true, true, true, true, true, true, false, false, false]) (fuel := 3) (sy' := ⟨[(0, Z s_), (2, Pt 3 0), (6, Sl a114 r113 c115), (7, Pt 8 0), (11, Sl a137 out_136 c138), (12, I i_140), (13, Pt 14 0), (54, V (.agg #[.int .i64 r153.1.What, .int .i64 r153.1.Prc, .int .i64 r153.1.N])), (55, I r153.2.1), (56, I r153.2.2)], [(3, (25, [I 0, I 0, I 0, V (.slice none 0 0)])), (8, (25, [I r120.1.States, I r120.1.Kinds, I r120.1.Init, Sl a121 r120.1.Rows c122])), (14, (51, [I 0, I 0, I 0]))]⟩) kr (by rfl) ?_
        intro a hS
        exact H _ _ ⟨ρ, _, hr178, hS.sl _, hO, hD, hH, h135, h139, h141⟩
     ·replace hm := hm.2 hb
      refine wexit (by rfl) ?_
      exact ⟨ρ, _, out_136, a137, c138, hm, hS.sl _, hO, h139, h141⟩
   ·rintro a w201 ⟨ρ, χ200, out_126, a127, c128, hm, hS, hO, h129, h130⟩
    unfold VC9_J1 at hm
    refine rM T hS ⟨[(2, Pt 3 0), (3, Sl a127 out_126 c128), (4, I ((s_.length : Nat) : Int)), (5, I 0)], [(3, (25, [I r120.1.States, I r120.1.Kinds, I r120.1.Init, Sl a121 r120.1.Rows c122]))]⟩ fun ρ a w133 χ134 hS hE hr => ?_
    replace hO := hO.mv hE rfl rfl
    replace h129 := h129.mv hE rfl rfl
    replace h130 := h130.mv hE rfl
    clear hE hr
    refine wret ?_
    obtain ⟨χ131, hE, hF⟩ := h129.freeze (by decide)
    replace hS := hS.ev hE (xone_box kr)
    replace hO := hO.mv hE rfl rfl
    replace h130 := h130.mv hE rfl
    have h132 := hF; clear hE hF
    exact fin T hS hO (fun c => c) rfl (r := [.agg #[.int .i64 r120.1.States, .int .i64 r120.1.Kinds, .int .i64 r120.1.Init, .slice a121 r120.1.Rows.length c122], .slice a127 out_126.length c128, .int .i64 ((s_.length : Nat) : Int), .int .i64 0]) kr (fun χ' hM hC => ⟨(r120.1, out_126, ((s_.length : Nat) : Int), 0), hm, a121, c122, a127, c128, rfl, h130.m0 hM, h132.m0 hM⟩)
theorem C9 (k19 : S19) (k20 : S20) (k21 : S21) (k22 : S22) (v : ∀ (s_ : List UInt8), VC9 s_ (fun r => r = ref26_Parse s_)) : S9 := by
 intro w χ s_    
 refine (W9 k19 k20 k21 k22 w χ s_    _ (v s_)).mono ?_
 rintro _ _ _ _ ⟨r, rfl, h⟩
 exact h
/-- replevin/replevinlaw26.HisttextReads -/
theorem W3 (k10 : S10) (k7 : S7) (k8 : S8) (k9 : S9) (w0 : World) (χ0 : Nat → Nat) (s_ : List UInt8) (Q : Bool → Prop) (hm : VC3 s_ Q) (hAmb : Amb w0 χ0) :
  Ret Tryd.prog 3 #[.string (bs s_)] xnone w0 χ0 (fun w χ' v => ∃ r, Q r ∧ v = .bool r) := by
 unfold VC3 at hm
 refine enter Tryd.func3 rfl (vals := [.string (bs s_)]) kr ?_
 intro ρ a hS hO hM
 replace hAmb := hAmb.m0 hM
 clear hM
 refine rP T hS ⟨[(0, Z s_)], []⟩ fun a hS => ?_
 refine wseq ?_
 refine rP T hS ⟨[(0, Z s_), (12, B (decide (((s_.length : Nat) : Int) > 3000)))], []⟩ fun a hS => ?_
 refine wcond hS (b := decide (((s_.length : Nat) : Int) > 3000)) kr (fun hb => ?_) (fun hb => ?_)
 ·replace hm := hm.1 hb
  refine regO ?_
  refine op1 (call hS kr kr hb7 kr (fun _ _ => rfl) (k7 _ _ hAmb) ?_)
  intro v101 a w102 χ103 hE hp hS
  replace hO := hO.mv hE rfl rfl
  replace hAmb := hAmb.mv hE rfl
  clear hE
  obtain ⟨r104, hr⟩ : ∃ r, law26_awake = r := ⟨_, rfl⟩
  replace hm := hm r104 hr
  rw [hr] at hp
  clear hr
  subst hp
  refine eP T hS ⟨[(2, B r104)], []⟩ fun a hS => ?_
  refine wret ?_
  exact fin T hS hO (fun c => c) rfl (r := [.bool r104]) kr (fun χ' hM hC => ⟨r104, hm, rfl⟩)
 ·replace hm := hm.2 hb
  refine wskip ?_
  refine regO ?_
  refine oP T hS 1 ⟨[(0, Z s_), (15, Z s_)], []⟩ fun a hS => ?_
  refine op1 (call hS kr kr hb8 kr (fun _ _ => rfl) (k8 _ _ s_) ?_)
  intro v105 a w106 χ107 hE hp hS
  replace hO := hO.mv hE rfl rfl
  replace hAmb := hAmb.mv hE rfl
  clear hE
  obtain ⟨a109, c110, a112, c113, hp, h111, h114⟩ := hp
  obtain ⟨r108, hr⟩ : ∃ r, histtext_Parse s_ = r := ⟨_, rfl⟩
  replace hm := hm r108 hr
  rw [hr] at hp h111 h114
  clear hr
  subst hp
  replace hm := hm (h111.sm kr)
  replace hm := hm (h114.sm kr)
  refine eM T hS ⟨[(0, Z s_), (3, Pt 4 0), (4, I r108.2.1), (5, I r108.2.2)], [(4, (28, [I r108.1.Object.States, I r108.1.Object.Kinds, I r108.1.Object.Init, Sl a109 r108.1.Object.Rows c110, Sl a112 r108.1.Events c113]))]⟩ fun ρ a w135 χ136 hS hE hr => ?_
  replace hO := hO.mv hE rfl rfl
  replace hAmb := hAmb.mv hE rfl
  replace h111 := h111.mv hE rfl
  replace h114 := h114.mv hE rfl
  clear hE hr
  refine regO ?_
  refine oP T hS 1 ⟨[(3, Pt 4 0), (4, I r108.2.1), (5, I r108.2.2), (21, Z s_)], [(4, (28, [I r108.1.Object.States, I r108.1.Object.Kinds, I r108.1.Object.Init, Sl a109 r108.1.Object.Rows c110, Sl a112 r108.1.Events c113]))]⟩ fun a hS => ?_
  refine op1 (call hS kr kr hb9 kr (fun _ _ => rfl) (k9 _ _ s_) ?_)
  intro v115 a w116 χ117 hE hp hS
  replace hO := hO.mv hE rfl rfl
  replace hAmb := hAmb.mv hE rfl
  replace h111 := h111.mv hE rfl
  replace h114 := h114.mv hE rfl
  clear hE
  obtain ⟨a119, c120, a122, c123, hp, h121, h124⟩ := hp
  obtain ⟨r118, hr⟩ : ∃ r, ref26_Parse s_ = r := ⟨_, rfl⟩
  replace hm := hm r118 hr
  rw [hr] at hp h121 h124
  clear hr
  subst hp
  replace hm := hm (h121.sm kr)
  replace hm := hm (h124.sm kr)
  refine eM T hS ⟨[(3, Pt 4 0), (4, I r108.2.1), (5, I r108.2.2), (6, Pt 7 0), (7, Sl a122 r118.2.1 c123), (8, I r118.2.2.1), (9, I r118.2.2.2)], [(4, (28, [I r108.1.Object.States, I r108.1.Object.Kinds, I r108.1.Object.Init, Sl a109 r108.1.Object.Rows c110, Sl a112 r108.1.Events c113])), (7, (25, [I r118.1.States, I r118.1.Kinds, I r118.1.Init, Sl a119 r118.1.Rows c120]))]⟩ fun ρ a w133 χ134 hS hE hr => ?_
  replace hO := hO.mv hE rfl rfl
  replace hAmb := hAmb.mv hE rfl
  replace h111 := h111.mv hE rfl
  replace h114 := h114.mv hE rfl
  replace h121 := h121.mv hE rfl
  replace h124 := h124.mv hE rfl
  clear hE hr
  refine regO ?_
  refine oP T hS 3 ⟨[(4, I r108.2.1), (5, I r108.2.2), (8, I r118.2.2.1), (9, I r118.2.2.2), (27, V (.agg #[.int .i64 r108.1.Object.States, .int .i64 r108.1.Object.Kinds, .int .i64 r108.1.Object.Init, .slice a109 r108.1.Object.Rows.length c110, .slice a112 r108.1.Events.length c113])), (28, V (.agg #[.int .i64 r118.1.States, .int .i64 r118.1.Kinds, .int .i64 r118.1.Init, .slice a119 r118.1.Rows.length c120])), (29, Sl a122 r118.2.1 c123)], []⟩ fun a hS => ?_
  refine op1 (call hS kr kr hb10 kr (fun _ _ => rfl) (k10 _ _ r108.1 r118.1 r118.2.1 a109 c110 a112 c113 a119 c120 a122 c123 h111 h114 h121 h124) ?_)
  intro v125 a w126 χ127 hE hp hS
  replace hO := hO.mv hE rfl rfl
  replace hAmb := hAmb.mv hE rfl
  replace h111 := h111.mv hE rfl
  replace h114 := h114.mv hE rfl
  replace h121 := h121.mv hE rfl
  replace h124 := h124.mv hE rfl
  clear hE
  obtain ⟨r128, hr⟩ : ∃ r, law26_same r108.1 r118.1 r118.2.1 = r := ⟨_, rfl⟩
  replace hm := hm r128 hr
  rw [hr] at hp
  clear hr
  subst hp
  refine oP T hS 11 ⟨[(41, B ((r128 && (r108.2.1 == r118.2.2.1)) && (r108.2.2 == r118.2.2.2)))], []⟩ (sp := [31, 36]) fun a hS => ?_
  rcases Bool.eq_false_or_eq_true ((r128 && (r108.2.1 == r118.2.2.1)) && (r108.2.2 == r118.2.2.2)) with hb | hb
  ·replace hS := hS.lit (t := 41) kr hb
   replace hm := hm.1 hb
   refine op1 (call hS kr kr hb7 kr (fun _ _ => rfl) (k7 _ _ hAmb) ?_)
   intro v129 a w130 χ131 hE hp hS
   replace hO := hO.mv hE rfl rfl
   replace hAmb := hAmb.mv hE rfl
   clear hE
   obtain ⟨r132, hr⟩ : ∃ r, law26_awake = r := ⟨_, rfl⟩
   replace hm := hm r132 hr
   rw [hr] at hp
   clear hr
   subst hp
   refine eP T hS ⟨[(2, B r132)], []⟩ fun a hS => ?_
   refine wret ?_
   exact fin T hS hO (fun c => c) rfl (r := [.bool r132]) kr (fun χ' hM hC => ⟨r132, hm, rfl⟩)
  ·replace hS := hS.lit (t := 41) kr hb
   replace hm := hm.2 hb
   refine eP T hS ⟨[(2, B false)], []⟩ fun a hS => ?_
   refine wret ?_
   exact fin T hS hO (fun c => c) rfl (r := [.bool false]) kr (fun χ' hM hC => ⟨false, hm, rfl⟩)
end Go.Proofs.YtcjldfbgccmpkaaDoor
