/- Walks: each function returns what its condition asks. Condition: the contracts of its callees, handed in. -/
import Derived.Test.YtebhbnlbfglmkaaDoorPWalksS
set_option linter.all false
namespace Go.Proofs.YtebhbnlbfglmkaaDoor
open Go Go.Sv
set_option maxHeartbeats 1000000
/-- replevin/replevinlaw10.ProofBack -/
theorem W5 (k10 : S10) (k11 : S11) (k14 : S14) (k16 : S16) (k19 : S19) (k7 : S7) (k8 : S8) (w0 : World) (χ0 : Nat → Nat) (l_ : List Api_Step) (s_ : List UInt8) (h_ : List Int) (a1 : Option Addr) (c1 : Nat) (a2 : Option Addr) (c2 : Nat) (Q : Bool → Prop) (hm : VC5 l_ s_ h_ Q) (h1 : RS tApi_Step w0 χ0 a1 l_ c1) (h2 : RS tI w0 χ0 a2 h_ c2) (hAmb : Amb w0 χ0) :
  Ret Tryd.prog 5 #[.slice a1 l_.length c1, .string (bs s_), .slice a2 h_.length c2] xnone w0 χ0 (fun w χ' v => ∃ r, Q r ∧ v = .bool r) := by
 unfold VC5 at hm
 replace hm := hm (h1.sm kr)
 replace hm := hm (h2.sm kr)
 refine enter Tryd.func5 rfl (vals := [.slice a1 l_.length c1, .string (bs s_), .slice a2 h_.length c2]) kr ?_
 intro ρ a hS hO hM
 replace h1 := h1.m0 hM
 replace h2 := h2.m0 hM
 replace hAmb := hAmb.m0 hM
 clear hM
 refine rP T hS ⟨[(0, Sl a1 l_ c1), (1, Z s_), (2, Sl a2 h_ c2)], []⟩ fun a hS => ?_
 refine wseq ?_
 refine regO ?_
 refine oP T hS 1 ⟨[(0, Sl a1 l_ c1), (1, Z s_), (2, Sl a2 h_ c2), (24, Sl a1 l_ c1)], []⟩ fun a hS => ?_
 refine op1 (call hS kr kr hb11 kr (fun _ _ => rfl) (k11 _ _ l_ a1 c1 h1) ?_)
 intro v101 a w102 χ103 hE hp hS
 replace hO := hO.mv hE rfl rfl
 replace h1 := h1.mv hE rfl
 replace h2 := h2.mv hE rfl
 replace hAmb := hAmb.mv hE rfl
 clear hE
 obtain ⟨r104, hr⟩ : ∃ r, law10_Few l_ = r := ⟨_, rfl⟩
 replace hm := hm r104 hr
 rw [hr] at hp
 clear hr
 subst hp
 refine eP T hS ⟨[(0, Sl a1 l_ c1), (1, Z s_), (2, Sl a2 h_ c2), (36, B (((!r104) || (decide (((s_.length : Nat) : Int) > 3000))) || (decide (((h_.length : Nat) : Int) > 200))))], []⟩ (sp := [27, 32]) fun a hS => ?_
 refine wcond hS (b := (((!r104) || (decide (((s_.length : Nat) : Int) > 3000))) || (decide (((h_.length : Nat) : Int) > 200)))) kr (fun hb => ?_) (fun hb => ?_)
 ·replace hm := hm.1 hb
  refine regO ?_
  refine op1 (call hS kr kr hb7 kr (fun _ _ => rfl) (k7 _ _ hAmb) ?_)
  intro v105 a w106 χ107 hE hp hS
  replace hO := hO.mv hE rfl rfl
  replace h1 := h1.mv hE rfl
  replace h2 := h2.mv hE rfl
  replace hAmb := hAmb.mv hE rfl
  clear hE
  obtain ⟨r108, hr⟩ : ∃ r, law10_awake = r := ⟨_, rfl⟩
  replace hm := hm r108 hr
  rw [hr] at hp
  clear hr
  subst hp
  refine eP T hS ⟨[(6, B r108)], []⟩ fun a hS => ?_
  refine wret ?_
  exact fin T hS hO (fun c => c) rfl (r := [.bool r108]) kr (fun χ' hM hC => ⟨r108, hm, rfl⟩)
 ·replace hm := hm.2 hb
  refine wskip ?_
  refine regO ?_
  refine oP T hS 1 ⟨[(0, Sl a1 l_ c1), (1, Z s_), (2, Sl a2 h_ c2), (39, Sl a1 l_ c1)], []⟩ fun a hS => ?_
  refine op1 (call hS kr kr hb14 kr (fun _ _ => rfl) (k14 _ _ l_ a1 c1 h1 hAmb) ?_)
  intro v109 a w110 χ111 hE hp hS
  replace hO := hO.mv hE rfl rfl
  replace h1 := h1.mv hE rfl
  replace h2 := h2.mv hE rfl
  replace hAmb := hAmb.mv hE rfl
  clear hE
  obtain ⟨r112, hr⟩ : ∃ r, proof_Print l_ = r := ⟨_, rfl⟩
  replace hm := hm r112 hr
  rw [hr] at hp
  clear hr
  subst hp
  refine eP T hS ⟨[(0, Sl a1 l_ c1), (1, Z s_), (2, Sl a2 h_ c2), (7, Z r112.1), (8, I r112.2)], []⟩ fun a hS => ?_
  refine wcut (fun a w => ∃ (ρ : Nat → Nat) (χ : Nat → Nat), VC5_J1 s_ h_ Q ∧ St Tryd.f5.ntmps ⟨[(1, Z s_), (2, Sl a2 h_ c2)], []⟩ ρ a w χ ∧ Old w0 χ0 w χ ∧ RS tI w χ a2 h_ c2 ∧ Amb w χ) ?_ ?_
  ·refine rP T hS ⟨[(0, Sl a1 l_ c1), (1, Z s_), (2, Sl a2 h_ c2), (7, Z r112.1), (44, B (r112.2 == 0))], []⟩ fun a hS => ?_
   refine wcond hS (b := (r112.2 == 0)) kr (fun hb => ?_) (fun hb => ?_)
   ·replace hm := hm.1 hb
    refine regO ?_
    refine oP T hS 1 ⟨[(0, Sl a1 l_ c1), (1, Z s_), (2, Sl a2 h_ c2), (7, Z r112.1), (46, Z r112.1)], []⟩ fun a hS => ?_
    refine op1 (call hS kr kr hb8 kr (fun _ _ => rfl) (k8 _ _ r112.1) ?_)
    intro v229 a w230 χ231 hE hp hS
    replace hO := hO.mv hE rfl rfl
    replace h1 := h1.mv hE rfl
    replace h2 := h2.mv hE rfl
    replace hAmb := hAmb.mv hE rfl
    clear hE
    obtain ⟨a233, c234, hp, h235⟩ := hp
    obtain ⟨r232, hr⟩ : ∃ r, proof_Parse r112.1 = r := ⟨_, rfl⟩
    replace hm := hm r232 hr
    rw [hr] at hp h235
    clear hr
    subst hp
    replace hm := hm (h235.sm kr)
    refine eP T hS ⟨[(0, Sl a1 l_ c1), (1, Z s_), (2, Sl a2 h_ c2), (7, Z r112.1), (9, Sl a233 r232.1 c234), (10, I r232.2.1), (11, I r232.2.2)], []⟩ fun a hS => ?_
    refine regO ?_
    refine oP T hS 2 ⟨[(1, Z s_), (2, Sl a2 h_ c2), (7, Z r112.1), (10, I r232.2.1), (11, I r232.2.2), (51, Sl a1 l_ c1), (52, Sl a233 r232.1 c234)], []⟩ fun a hS => ?_
    refine op1 (call hS kr kr hb10 kr (fun _ _ => rfl) (k10 _ _ l_ r232.1 a1 c1 a233 c234 h1 h235) ?_)
    intro v236 a w237 χ238 hE hp hS
    replace hO := hO.mv hE rfl rfl
    replace h1 := h1.mv hE rfl
    replace h2 := h2.mv hE rfl
    replace hAmb := hAmb.mv hE rfl
    replace h235 := h235.mv hE rfl
    clear hE
    obtain ⟨r239, hr⟩ : ∃ r, ref10_Same l_ r232.1 = r := ⟨_, rfl⟩
    replace hm := hm r239 hr
    rw [hr] at hp
    clear hr
    subst hp
    refine eP T hS ⟨[(1, Z s_), (2, Sl a2 h_ c2), (64, B (((!r239) || (r232.2.1 != ((r112.1.length : Nat) : Int))) || (r232.2.2 != 0)))], []⟩ (sp := [55, 61]) fun a hS => ?_
    refine wcond hS (b := (((!r239) || (r232.2.1 != ((r112.1.length : Nat) : Int))) || (r232.2.2 != 0))) kr (fun hb => ?_) (fun hb => ?_)
    ·replace hm := hm.1 hb
     refine rP T hS ⟨[(6, B false)], []⟩ fun a hS => ?_
     refine wret ?_
     exact fin T hS hO (fun c => c) rfl (r := [.bool false]) kr (fun χ' hM hC => ⟨false, hm, rfl⟩)
    ·replace hm := hm.2 hb
     refine wskip ?_
     exact ⟨ρ, _, hm, hS.sl _, hO, h2, hAmb⟩
   ·replace hm := hm.2 hb
    refine wskip ?_
    exact ⟨ρ, _, hm, hS.sl _, hO, h2, hAmb⟩
  ·rintro a w241 ⟨ρ, χ240, hm, hS, hO, h113, hAmb⟩
   unfold VC5_J1 at hm
   refine regO ?_
   refine oP T hS 1 ⟨[(1, Z s_), (2, Sl a2 h_ c2), (66, Sl a2 h_ c2)], []⟩ fun a hS => ?_
   obtain ⟨hq, hm⟩ := hm
   refine op1 (call hS kr kr hb16 kr (fun _ _ => rfl) (k16 _ _ h_ a2 c2 hq h113) ?_)
   intro v114 a w115 χ116 hE hp hS
   clear hq
   replace hO := hO.mv hE rfl rfl
   replace h113 := h113.mv hE rfl
   replace hAmb := hAmb.mv hE rfl
   clear hE
   obtain ⟨a118, c119, a121, c122, hp, h120, h123⟩ := hp
   obtain ⟨r117, hr⟩ : ∃ r, proof_Split h_ = r := ⟨_, rfl⟩
   replace hm := hm r117 hr
   rw [hr] at hp h120 h123
   clear hr
   subst hp
   replace hm := hm (h120.sm kr)
   replace hm := hm (h123.sm kr)
   refine eP T hS ⟨[(1, Z s_), (2, Sl a2 h_ c2), (12, Sl a118 r117.1 c119), (13, Sl a121 r117.2 c122)], []⟩ fun a hS => ?_
   refine regO ?_
   refine op1 (lit (E := 3) (col := 1015) (T := tI) (vals := []) (ys := ([] : List Int)) T hS kr kr kr kr trivial rfl kr kr kr kr ?_)
   intro b124 a w125 χ126 hE h127 hN hS
   clear hN
   replace hO := hO.mv hE rfl rfl
   replace h113 := h113.mv hE rfl
   replace hAmb := hAmb.mv hE rfl
   replace h120 := h120.mv hE rfl
   replace h123 := h123.mv hE rfl
   clear hE
   refine oP T hS 1 ⟨[(1, Z s_), (2, Sl a2 h_ c2), (13, Sl a121 r117.2 c122), (70, Sl (some ⟨b124, 0, none⟩) ([] : List Int) 0), (71, Sl a118 r117.1 c119)], []⟩ fun a hS => ?_
   obtain ⟨hq, hm⟩ := hm
   obtain ⟨news, hN⟩ := h120.src
   refine op1 (append (E := 3) (T := tI) (col := 1015) (xs := ([] : List Int)) T hS kr kr kr kr h127 hN kr kr kr kr hq ?_)
   intro a131 c132 a w128 χ129 hE h130 hS
   clear hq hN
   clear h127
   replace hO := hO.mv hE rfl rfl
   replace h113 := h113.mv hE rfl
   replace hAmb := hAmb.mv hE rfl
   replace h120 := h120.mv hE rfl
   replace h123 := h123.mv hE rfl
   clear hE
   refine eP T hS ⟨[(1, Z s_), (2, Sl a2 h_ c2), (13, Sl a121 r117.2 c122), (14, Sl a131 (([] : List Int) ++ r117.1) c132)], []⟩ fun a hS => ?_
   refine wcut (fun a w => ∃ (ρ : Nat → Nat) (χ : Nat → Nat) (all_134 : List Int) (a135 : Option Addr) (c136 : Nat), VC5_J2 s_ h_ Q all_134 ∧ St Tryd.f5.ntmps ⟨[(1, Z s_), (2, Sl a2 h_ c2), (14, Sl a135 all_134 c136)], []⟩ ρ a w χ ∧ Old w0 χ0 w χ ∧ RS tI w χ a2 h_ c2 ∧ OS tI 3 w χ 1015 a135 all_134 c136 ∧ Amb w χ) ?_ ?_
   ·refine rP T hS ⟨[(1, Z s_), (2, Sl a2 h_ c2), (13, Sl a121 r117.2 c122), (14, Sl a131 (([] : List Int) ++ r117.1) c132), (15, I 0)], []⟩ fun a hS => ?_
    refine wblock ?_
    obtain ⟨I1, μ1, hm0, hm⟩ := hm
    refine wloop (σ := (List Int) × Int) (fun s a w => ∃ (ρ : Nat → Nat) (χ : Nat → Nat) (a186 : Option Addr) (c187 : Nat), I1 s.1 s.2 ∧ St Tryd.f5.ntmps ⟨[(1, Z s_), (2, Sl a2 h_ c2), (13, Sl a121 r117.2 c122), (14, Sl a186 s.1 c187), (15, I s.2)], []⟩ ρ a w χ ∧ Old w0 χ0 w χ ∧ RS tI w χ a2 h_ c2 ∧ RS (tSlice tI) w χ a121 r117.2 c122 ∧ OS tI 3 w χ 1015 a186 s.1 c187 ∧ Amb w χ) (fun s => μ1 s.1 s.2) (⟨([] : List Int) ++ r117.1, 0⟩) ?_ ?_
    ·exact ⟨ρ, _, a131, c132, hm0, hS.sl _, hO, h113, h123, h130, hAmb⟩
    ·rintro ⟨all_185, i_189⟩ a w226 ⟨ρ, χ225, a186, c187, hI, hS, hO, h183, h184, h188, hAmb⟩
     replace hm := hm all_185 i_189 hI
     clear hI hm0
     refine wseq ?_
     refine rP T hS ⟨[(1, Z s_), (2, Sl a2 h_ c2), (13, Sl a121 r117.2 c122), (14, Sl a186 all_185 c187), (15, I i_189), (76, B (decide (i_189 < ((r117.2.length : Nat) : Int))))], []⟩ fun a hS => ?_
     refine wcond hS (b := decide (i_189 < ((r117.2.length : Nat) : Int))) kr (fun hb => ?_) (fun hb => ?_)
     ·replace hm := hm.1 hb
      refine wskip ?_
      refine wseq ?_
      refine wblock ?_
      refine wseq ?_
      refine wcut (fun a w => ∃ (ρ : Nat → Nat) (χ : Nat → Nat) (all_192 : List Int) (x_196 : Bool) (a193 : Option Addr) (c194 : Nat), VC5_J5 Q r117 I1 μ1 all_185 i_189 all_192 x_196 ∧ St Tryd.f5.ntmps ⟨[(1, Z s_), (2, Sl a2 h_ c2), (13, Sl a121 r117.2 c122), (14, Sl a193 all_192 c194), (15, I i_189), (93, B x_196)], []⟩ ρ a w χ ∧ Old w0 χ0 w χ ∧ RS tI w χ a2 h_ c2 ∧ RS (tSlice tI) w χ a121 r117.2 c122 ∧ OS tI 3 w χ 1015 a193 all_192 c194 ∧ Amb w χ) ?_ ?_
      ·refine region ?_
       refine oP T hS 2 ⟨[(1, Z s_), (2, Sl a2 h_ c2), (13, Sl a121 r117.2 c122), (14, Sl a186 all_185 c187), (15, I i_189), (79, Sl a121 r117.2 c122), (80, I i_189)], []⟩ fun a hS => ?_
       obtain ⟨hq, hm⟩ := hm
       refine op1 (index (e := 31) (k := .i64) T hS kr kr kr kr h184 kr kr hq.1 hq.2 ?_)
       intro A208 a h209 hS
       clear hq
       refine op1 (load1 T hS kr kr kr h209 rfl kr ?_)
       intro v210 a hv hS
       obtain ⟨a211, c212, hv, h213⟩ := hv
       cases hv
       replace hm := hm (h213.sm kr)
       refine oP T hS 3 ⟨[(1, Z s_), (2, Sl a2 h_ c2), (13, Sl a121 r117.2 c122), (14, Sl a186 all_185 c187), (15, I i_189), (85, B ((((gi r117.2 i_189).length : Nat) : Int) == 0))], []⟩ fun a hS => ?_
       rcases Bool.eq_false_or_eq_true ((((gi r117.2 i_189).length : Nat) : Int) == 0) with hb | hb
       ·replace hS := hS.lit (t := 85) kr hb
        replace hm := hm.1 hb
        refine eP T hS ⟨[(1, Z s_), (2, Sl a2 h_ c2), (13, Sl a121 r117.2 c122), (14, Sl a186 all_185 c187), (15, I i_189), (93, B true)], []⟩ fun a hS => ?_
        exact ⟨ρ, _, all_185, true, a186, c187, hm, hS.sl _, hO, h183, h184, h188, hAmb⟩
       ·replace hS := hS.lit (t := 85) kr hb
        replace hm := hm.2 hb
        refine oP T hS 2 ⟨[(1, Z s_), (2, Sl a2 h_ c2), (13, Sl a121 r117.2 c122), (14, Sl a186 all_185 c187), (15, I i_189), (85, B false), (86, Sl a121 r117.2 c122), (87, I i_189)], []⟩ fun a hS => ?_
        obtain ⟨hq, hm⟩ := hm
        refine op1 (index (e := 31) (k := .i64) T hS kr kr kr kr h184 kr kr hq.1 hq.2 ?_)
        intro A214 a h215 hS
        clear hq
        refine op1 (load1 T hS kr kr kr h215 rfl kr ?_)
        intro v216 a hv hS
        obtain ⟨a217, c218, hv, h219⟩ := hv
        cases hv
        replace hm := hm (h219.sm kr)
        obtain ⟨hq, hm⟩ := hm
        refine op1 (index (e := 3) (k := .i64) T hS kr kr kr kr h219 kr kr hq.1 hq.2 ?_)
        intro A220 a h221 hS
        clear hq
        refine op1 (load1 T hS kr kr kr h221 rfl kr ?_)
        intro v222 a hv hS
        cases hv
        refine eP T hS ⟨[(1, Z s_), (2, Sl a2 h_ c2), (13, Sl a121 r117.2 c122), (14, Sl a186 all_185 c187), (15, I i_189), (86, Sl a121 r117.2 c122), (87, I i_189), (88, V (.pointer (some A214))), (89, Sl a217 (gi r117.2 i_189) c218), (90, V (.pointer (some A220))), (91, I (gi (gi r117.2 i_189) 0)), (92, B (decide ((gi (gi r117.2 i_189) 0) ≥ 0))), (93, B (decide ((gi (gi r117.2 i_189) 0) ≥ 0)))], []⟩ fun a hS => ?_
        exact ⟨ρ, _, all_185, decide ((gi (gi r117.2 i_189) 0) ≥ 0), a186, c187, hm, hS.sl _, hO, h183, h184, h188, hAmb⟩
      ·rintro a w224 ⟨ρ, χ223, all_192, x_196, a193, c194, hm, hS, hO, h190, h191, h195, hAmb⟩
       unfold VC5_J5 at hm
       refine wcond hS (b := x_196) kr (fun hb => ?_) (fun hb => ?_)
       ·replace hm := hm.1 hb
        refine rP T hS ⟨[(6, B false)], []⟩ fun a hS => ?_
        refine wret ?_
        exact fin T hS hO (fun c => c) rfl (r := [.bool false]) kr (fun χ' hM hC => ⟨false, hm, rfl⟩)
       ·replace hm := hm.2 hb
        refine wskip ?_
        refine region ?_
        refine oP T hS 3 ⟨[(1, Z s_), (2, Sl a2 h_ c2), (13, Sl a121 r117.2 c122), (14, Sl a193 all_192 c194), (15, I i_189), (94, Sl a193 all_192 c194), (95, Sl a121 r117.2 c122), (96, I i_189)], []⟩ fun a hS => ?_
        obtain ⟨hq, hm⟩ := hm
        refine op1 (index (e := 31) (k := .i64) T hS kr kr kr kr h191 kr kr hq.1 hq.2 ?_)
        intro A197 a h198 hS
        clear hq
        refine op1 (load1 T hS kr kr kr h198 rfl kr ?_)
        intro v199 a hv hS
        obtain ⟨a200, c201, hv, h202⟩ := hv
        cases hv
        replace hm := hm (h202.sm kr)
        obtain ⟨hq, hm⟩ := hm
        obtain ⟨news, hN⟩ := h202.src
        refine op1 (append (E := 3) (T := tI) (col := 1015) (xs := all_192) T hS kr kr kr kr h195 hN kr kr kr kr hq ?_)
        intro a206 c207 a w203 χ204 hE h205 hS
        clear hq hN
        clear h195
        replace hO := hO.mv hE rfl rfl
        replace h190 := h190.mv hE rfl
        replace h191 := h191.mv hE rfl
        replace hAmb := hAmb.mv hE rfl
        replace h198 := h198.mv hE rfl
        replace h202 := h202.mv hE rfl
        clear hE
        refine eP T hS ⟨[(1, Z s_), (2, Sl a2 h_ c2), (13, Sl a121 r117.2 c122), (14, Sl a206 (all_192 ++ (gi r117.2 i_189)) c207), (15, I i_189)], []⟩ fun a hS => ?_
        refine region (eP T hS ⟨[(1, Z s_), (2, Sl a2 h_ c2), (13, Sl a121 r117.2 c122), (14, Sl a206 (all_192 ++ (gi r117.2 i_189)) c207), (15, I (IntKind.i64.wrap (i_189 + 1)))], []⟩ fun a hS => ?_)
        exact ⟨⟨all_192 ++ (gi r117.2 i_189), IntKind.i64.wrap (i_189 + 1)⟩, ⟨ρ, _, a206, c207, hm.1, hS.sl _, hO, h190, h191, h205, hAmb⟩, hm.2⟩
     ·replace hm := hm.2 hb
      refine wexit (by rfl) ?_
      exact ⟨ρ, _, all_185, a186, c187, hm, hS.sl _, hO, h183, h188, hAmb⟩
   ·rintro a w228 ⟨ρ, χ227, all_134, a135, c136, hm, hS, hO, h133, h137, hAmb⟩
    unfold VC5_J2 at hm
    refine regO ?_
    refine oP T hS 1 ⟨[(2, Sl a2 h_ c2), (14, Sl a135 all_134 c136), (101, Z s_)], []⟩ fun a hS => ?_
    refine op1 (call hS kr kr hb8 kr (fun _ _ => rfl) (k8 _ _ s_) ?_)
    intro v138 a w139 χ140 hE hp hS
    replace hO := hO.mv hE rfl rfl
    replace h133 := h133.mv hE rfl
    replace h137 := h137.mv hE rfl rfl
    replace hAmb := hAmb.mv hE rfl
    clear hE
    obtain ⟨a142, c143, hp, h144⟩ := hp
    obtain ⟨r141, hr⟩ : ∃ r, proof_Parse s_ = r := ⟨_, rfl⟩
    replace hm := hm r141 hr
    rw [hr] at hp h144
    clear hr
    subst hp
    replace hm := hm (h144.sm kr)
    refine eP T hS ⟨[(2, Sl a2 h_ c2), (14, Sl a135 all_134 c136), (16, Sl a142 r141.1 c143), (18, I r141.2.2)], []⟩ fun a hS => ?_
    refine wcut (fun a w => ∃ (ρ : Nat → Nat) (χ : Nat → Nat) (all_146 : List Int) (a147 : Option Addr) (c148 : Nat), VC5_J3 h_ Q all_146 ∧ St Tryd.f5.ntmps ⟨[(2, Sl a2 h_ c2), (14, Sl a147 all_146 c148)], []⟩ ρ a w χ ∧ Old w0 χ0 w χ ∧ RS tI w χ a2 h_ c2 ∧ OS tI 3 w χ 1015 a147 all_146 c148 ∧ Amb w χ) ?_ ?_
    ·refine rP T hS ⟨[(2, Sl a2 h_ c2), (14, Sl a135 all_134 c136), (16, Sl a142 r141.1 c143), (107, B (r141.2.2 == 0))], []⟩ fun a hS => ?_
     refine wcond hS (b := (r141.2.2 == 0)) kr (fun hb => ?_) (fun hb => ?_)
     ·replace hm := hm.1 hb
      refine regO ?_
      refine oP T hS 1 ⟨[(2, Sl a2 h_ c2), (14, Sl a135 all_134 c136), (16, Sl a142 r141.1 c143), (109, Sl a142 r141.1 c143)], []⟩ fun a hS => ?_
      refine op1 (call hS kr kr hb14 kr (fun _ _ => rfl) (k14 _ _ r141.1 a142 c143 h144 hAmb) ?_)
      intro v158 a w159 χ160 hE hp hS
      replace hO := hO.mv hE rfl rfl
      replace h133 := h133.mv hE rfl
      replace h137 := h137.mv hE rfl rfl
      replace hAmb := hAmb.mv hE rfl
      replace h144 := h144.mv hE rfl
      clear hE
      obtain ⟨r161, hr⟩ : ∃ r, proof_Print r141.1 = r := ⟨_, rfl⟩
      replace hm := hm r161 hr
      rw [hr] at hp
      clear hr
      subst hp
      refine eP T hS ⟨[(2, Sl a2 h_ c2), (14, Sl a135 all_134 c136), (16, Sl a142 r141.1 c143), (19, Z r161.1), (20, I r161.2)], []⟩ fun a hS => ?_
      refine regO ?_
      refine oP T hS 1 ⟨[(2, Sl a2 h_ c2), (14, Sl a135 all_134 c136), (16, Sl a142 r141.1 c143), (20, I r161.2), (114, Z r161.1)], []⟩ fun a hS => ?_
      refine op1 (call hS kr kr hb8 kr (fun _ _ => rfl) (k8 _ _ r161.1) ?_)
      intro v162 a w163 χ164 hE hp hS
      replace hO := hO.mv hE rfl rfl
      replace h133 := h133.mv hE rfl
      replace h137 := h137.mv hE rfl rfl
      replace hAmb := hAmb.mv hE rfl
      replace h144 := h144.mv hE rfl
      clear hE
      obtain ⟨a166, c167, hp, h168⟩ := hp
      obtain ⟨r165, hr⟩ : ∃ r, proof_Parse r161.1 = r := ⟨_, rfl⟩
      replace hm := hm r165 hr
      rw [hr] at hp h168
      clear hr
      subst hp
      replace hm := hm (h168.sm kr)
      refine eP T hS ⟨[(2, Sl a2 h_ c2), (14, Sl a135 all_134 c136), (16, Sl a142 r141.1 c143), (20, I r161.2), (21, Sl a166 r165.1 c167), (23, I r165.2.2)], []⟩ fun a hS => ?_
      refine wcut (fun a w => ∃ (ρ : Nat → Nat) (χ : Nat → Nat) (all_170 : List Int) (x_174 : Bool) (a171 : Option Addr) (c172 : Nat), VC5_J4 h_ Q all_170 x_174 ∧ St Tryd.f5.ntmps ⟨[(2, Sl a2 h_ c2), (14, Sl a171 all_170 c172), (130, B x_174)], []⟩ ρ a w χ ∧ Old w0 χ0 w χ ∧ RS tI w χ a2 h_ c2 ∧ OS tI 3 w χ 1015 a171 all_170 c172 ∧ Amb w χ) ?_ ?_
      ·refine region ?_
       refine oP T hS 7 ⟨[(2, Sl a2 h_ c2), (14, Sl a135 all_134 c136), (16, Sl a142 r141.1 c143), (21, Sl a166 r165.1 c167), (125, B ((r161.2 != 0) || (r165.2.2 != 0)))], []⟩ (sp := [121]) fun a hS => ?_
       rcases Bool.eq_false_or_eq_true ((r161.2 != 0) || (r165.2.2 != 0)) with hb | hb
       ·replace hS := hS.lit (t := 125) kr hb
        replace hm := hm.1 hb
        refine eP T hS ⟨[(2, Sl a2 h_ c2), (14, Sl a135 all_134 c136), (130, B true)], []⟩ fun a hS => ?_
        exact ⟨ρ, _, all_134, true, a135, c136, hm, hS.sl _, hO, h133, h137, hAmb⟩
       ·replace hS := hS.lit (t := 125) kr hb
        replace hm := hm.2 hb
        refine oP T hS 2 ⟨[(2, Sl a2 h_ c2), (14, Sl a135 all_134 c136), (125, B false), (126, Sl a166 r165.1 c167), (127, Sl a142 r141.1 c143)], []⟩ fun a hS => ?_
        refine op1 (call hS kr kr hb10 kr (fun _ _ => rfl) (k10 _ _ r165.1 r141.1 a166 c167 a142 c143 h168 h144) ?_)
        intro v175 a w176 χ177 hE hp hS
        replace hO := hO.mv hE rfl rfl
        replace h133 := h133.mv hE rfl
        replace h137 := h137.mv hE rfl rfl
        replace hAmb := hAmb.mv hE rfl
        replace h144 := h144.mv hE rfl
        replace h168 := h168.mv hE rfl
        clear hE
        obtain ⟨r178, hr⟩ : ∃ r, ref10_Same r165.1 r141.1 = r := ⟨_, rfl⟩
        replace hm := hm r178 hr
        rw [hr] at hp
        clear hr
        subst hp
        refine eP T hS ⟨[(2, Sl a2 h_ c2), (14, Sl a135 all_134 c136), (130, B (!r178))], []⟩ fun a hS => ?_
        exact ⟨ρ, _, all_134, (!r178), a135, c136, hm, hS.sl _, hO, h133, h137, hAmb⟩
      ·rintro a w180 ⟨ρ, χ179, all_170, x_174, a171, c172, hm, hS, hO, h169, h173, hAmb⟩
       unfold VC5_J4 at hm
       refine wcond hS (b := x_174) kr (fun hb => ?_) (fun hb => ?_)
       ·replace hm := hm.1 hb
        refine rP T hS ⟨[(6, B false)], []⟩ fun a hS => ?_
        refine wret ?_
        exact fin T hS hO (fun c => c) rfl (r := [.bool false]) kr (fun χ' hM hC => ⟨false, hm, rfl⟩)
       ·replace hm := hm.2 hb
        refine wskip ?_
        exact ⟨ρ, _, all_170, a171, c172, hm, hS.sl _, hO, h169, h173, hAmb⟩
     ·replace hm := hm.2 hb
      refine wskip ?_
      exact ⟨ρ, _, all_134, a135, c136, hm, hS.sl _, hO, h133, h137, hAmb⟩
    ·rintro a w182 ⟨ρ, χ181, all_146, a147, c148, hm, hS, hO, h145, h149, hAmb⟩
     unfold VC5_J3 at hm
     refine regO ?_
     refine oP T hS 2 ⟨[(131, Sl a147 all_146 c148), (132, Sl a2 h_ c2)], []⟩ fun a hS => ?_
     refine op1 (call hS kr kr hb19 kr (fun _ _ => rfl) (Ret.unlend (k19 _ (lend 1015 _) all_146 h_ a147 c148 a2 c2 h149.lend (h145.m0 (M0.lend 1015)))) ?_)
     intro v150 a w151 χ152 hE hp hS
     replace hO := hO.mv hE rfl rfl
     replace h145 := h145.mv hE rfl
     replace h149 := h149.mv hE rfl rfl
     replace hAmb := hAmb.mv hE rfl
     clear hE
     obtain ⟨_, hp⟩ := hp
     obtain ⟨r153, hr⟩ : ∃ r, ref01_SameInts all_146 h_ = r := ⟨_, rfl⟩
     replace hm := hm r153 hr
     rw [hr] at hp
     clear hr
     subst hp
     refine oP T hS 1 ⟨[(134, B r153)], []⟩ fun a hS => ?_
     rcases Bool.eq_false_or_eq_true r153 with hb | hb
     ·replace hS := hS.lit (t := 134) kr hb
      replace hm := hm.1 hb
      refine op1 (call hS kr kr hb7 kr (fun _ _ => rfl) (k7 _ _ hAmb) ?_)
      intro v154 a w155 χ156 hE hp hS
      replace hO := hO.mv hE rfl rfl
      replace hAmb := hAmb.mv hE rfl
      clear hE
      obtain ⟨r157, hr⟩ : ∃ r, law10_awake = r := ⟨_, rfl⟩
      replace hm := hm r157 hr
      rw [hr] at hp
      clear hr
      subst hp
      refine eP T hS ⟨[(6, B r157)], []⟩ fun a hS => ?_
      refine wret ?_
      exact fin T hS hO (fun c => c) rfl (r := [.bool r157]) kr (fun χ' hM hC => ⟨r157, hm, rfl⟩)
     ·replace hS := hS.lit (t := 134) kr hb
      replace hm := hm.2 hb
      refine eP T hS ⟨[(6, B false)], []⟩ fun a hS => ?_
      refine wret ?_
      exact fin T hS hO (fun c => c) rfl (r := [.bool false]) kr (fun χ' hM hC => ⟨false, hm, rfl⟩)
end Go.Proofs.YtebhbnlbfglmkaaDoor
