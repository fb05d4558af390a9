/- Walks: each function returns what its condition asks. Condition: the contracts of its callees, handed in. -/
import Derived.Test.YtohbpcjnilefbaaDoorKWalks
set_option linter.all false
namespace Go.Proofs.YtohbpcjnilefbaaDoor
open Go Go.Sv
set_option maxHeartbeats 1000000
/-- replevin/replevinlaw05.TokenCounts -/
theorem W4 (k15 : S15) (k24 : S24) (k25 : S25) (k26 : S26) (k27 : S27) (w0 : World) (χ0 : Nat → Nat) (s_ : List UInt8) (lo : Int) (hi : Int) (Q : Bool → Prop) (hm : VC4 s_ lo hi Q) (hAmb : Amb w0 χ0) :
    Ret Tryd.prog 4 #[.string (bs s_), .int .i64 lo, .int .i64 hi] xnone w0 χ0 (fun w χ' v => ∃ r, Q r ∧ v = .bool r) := by
  unfold VC4 at hm
  refine enter Tryd.func4 rfl (vals := [.string (bs s_), .int .i64 lo, .int .i64 hi]) (by kernel_rfl) ?_
  intro ρ a hS hO hM
  replace hAmb := hAmb.m0 hM
  clear hM
  refine regP T hS (sp := []) (ks := [0, 1, 2]) (bs := []) (sy' := ⟨[(0, V (.string (bs s_))), (1, I lo), (2, I hi)], []⟩) (by kernel_rfl) ?_
  intro a hS
  refine wseq ?_
  refine regP T hS (sp := []) (ks := [0, 1, 2, 13]) (bs := []) (sy' := ⟨[(0, V (.string (bs s_))), (1, I lo), (2, I hi), (13, B (decide (((s_.length : Nat) : Int) > 1000)))], []⟩) (by kernel_rfl) ?_
  intro a hS
  refine wcond hS (b := decide (((s_.length : Nat) : Int) > 1000)) (by kernel_rfl) (fun hb => ?_) (fun hb => ?_)
  · replace hm := hm.1 hb
    refine regO ?_
    refine op1 (call hS (by kernel_rfl) (by kernel_rfl) hb15 (by kernel_rfl) (fun _ _ => rfl) (k15 _ _ hAmb) ?_)
    intro v101 a w102 χ103 hE hp hS
    replace hO := hO.mv hE rfl rfl
    replace hAmb := hAmb.mv hE rfl
    clear hE
    obtain ⟨r104, hr⟩ : ∃ r, law05_awake = r := ⟨_, rfl⟩
    replace hm := hm r104 hr
    rw [hr] at hp
    clear hr
    subst hp
    refine endP T hS (sp := []) (ks := [6]) (bs := []) (sy' := ⟨[(6, B r104)], []⟩) (by kernel_rfl) ?_
    intro a hS
    refine wret ?_
    exact fin T hS hO (fun c => c) rfl (r := [.bool r104]) (by kernel_rfl) (fun χ' hM hC => ⟨r104, hm, rfl⟩)
  · replace hm := hm.2 hb
    refine wskip ?_
    refine regO ?_
    refine opsP T hS 3 (sp := []) (ks := [0, 1, 2, 16, 17, 18]) (bs := []) (sy' := ⟨[(0, V (.string (bs s_))), (1, I lo), (2, I hi), (16, V (.string (bs s_))), (17, I lo), (18, I hi)], []⟩) (by kernel_rfl) ?_
    intro a hS
    obtain ⟨hq, hm⟩ := hm
    refine op1 (call hS (by kernel_rfl) (by kernel_rfl) hb24 (by kernel_rfl) (fun _ _ => rfl) (k24 _ _ s_ lo hi hq) ?_)
    intro v105 a w106 χ107 hE hp hS
    clear hq
    replace hO := hO.mv hE rfl rfl
    replace hAmb := hAmb.mv hE rfl
    clear hE
    obtain ⟨r108, hr⟩ : ∃ r, token_Number s_ lo hi = r := ⟨_, rfl⟩
    replace hm := hm r108 hr
    rw [hr] at hp
    clear hr
    subst hp
    refine endP T hS (sp := []) (ks := [0, 1, 2, 7, 8]) (bs := []) (sy' := ⟨[(0, V (.string (bs s_))), (1, I lo), (2, I hi), (7, I r108.1), (8, I r108.2)], []⟩) (by kernel_rfl) ?_
    intro a hS
    refine regO ?_
    refine opsP T hS 3 (sp := []) (ks := [1, 2, 7, 8, 23, 24, 25]) (bs := []) (sy' := ⟨[(1, I lo), (2, I hi), (7, I r108.1), (8, I r108.2), (23, V (.string (bs s_))), (24, I lo), (25, I hi)], []⟩) (by kernel_rfl) ?_
    intro a hS
    obtain ⟨hq, hm⟩ := hm
    refine op1 (call hS (by kernel_rfl) (by kernel_rfl) hb25 (by kernel_rfl) (fun _ _ => rfl) (k25 _ _ s_ lo hi hq) ?_)
    intro v109 a w110 χ111 hE hp hS
    clear hq
    replace hO := hO.mv hE rfl rfl
    replace hAmb := hAmb.mv hE rfl
    clear hE
    obtain ⟨r112, hr⟩ : ∃ r, ref05_Number s_ lo hi = r := ⟨_, rfl⟩
    replace hm := hm r112 hr
    rw [hr] at hp
    clear hr
    subst hp
    refine endP T hS (sp := []) (ks := [1, 2, 7, 8, 9, 10]) (bs := []) (sy' := ⟨[(1, I lo), (2, I hi), (7, I r108.1), (8, I r108.2), (9, I r112.1), (10, I r112.2)], []⟩) (by kernel_rfl) ?_
    intro a hS
    refine regO ?_
    refine opsP T hS 9 (sp := [32]) (ks := [1, 2, 37]) (bs := []) (sy' := ⟨[(1, I lo), (2, I hi), (37, B ((r108.1 == r112.1) && (r108.2 == r112.2)))], []⟩) (by kernel_rfl) ?_
    intro a hS
    rcases Bool.eq_false_or_eq_true ((r108.1 == r112.1) && (r108.2 == r112.2)) with hb | hb
    · replace hS := hS.lit (t := 37) (by kernel_rfl) hb
      replace hm := hm.1 hb
      refine opsP T hS 1 (sp := []) (ks := [1, 2, 37, 38]) (bs := []) (sy' := ⟨[(1, I lo), (2, I hi), (37, B true), (38, I lo)], []⟩) (by kernel_rfl) ?_
      intro a hS
      obtain ⟨hq, hm⟩ := hm
      refine op1 (call hS (by kernel_rfl) (by kernel_rfl) hb26 (by kernel_rfl) (fun _ _ => rfl) (k26 _ _ lo hq hAmb) ?_)
      intro v113 a w114 χ115 hE hp hS
      clear hq
      replace hO := hO.mv hE rfl rfl
      replace hAmb := hAmb.mv hE rfl
      clear hE
      obtain ⟨r116, hr⟩ : ∃ r, token_Digits lo = r := ⟨_, rfl⟩
      replace hm := hm r116 hr
      rw [hr] at hp
      clear hr
      subst hp
      refine opsP T hS 1 (sp := []) (ks := [2, 37, 39, 40]) (bs := []) (sy' := ⟨[(2, I hi), (37, B true), (39, V (.string (bs r116))), (40, I lo)], []⟩) (by kernel_rfl) ?_
      intro a hS
      obtain ⟨hq, hm⟩ := hm
      refine op1 (call hS (by kernel_rfl) (by kernel_rfl) hb27 (by kernel_rfl) (fun _ _ => rfl) (k27 _ _ lo hq) ?_)
      intro v117 a w118 χ119 hE hp hS
      clear hq
      replace hO := hO.mv hE rfl rfl
      replace hAmb := hAmb.mv hE rfl
      clear hE
      obtain ⟨r120, hr⟩ : ∃ r, ref05_Digits lo = r := ⟨_, rfl⟩
      replace hm := hm r120 hr
      rw [hr] at hp
      clear hr
      subst hp
      refine opsP T hS 3 (sp := []) (ks := [2, 44]) (bs := []) (sy' := ⟨[(2, I hi), (44, B (r116 == r120))], []⟩) (by kernel_rfl) ?_
      intro a hS
      rcases Bool.eq_false_or_eq_true (r116 == r120) with hb | hb
      · replace hS := hS.lit (t := 44) (by kernel_rfl) hb
        replace hm := hm.1 hb
        refine opsP T hS 1 (sp := []) (ks := [2, 44, 45]) (bs := []) (sy' := ⟨[(2, I hi), (44, B true), (45, I hi)], []⟩) (by kernel_rfl) ?_
        intro a hS
        obtain ⟨hq, hm⟩ := hm
        refine op1 (call hS (by kernel_rfl) (by kernel_rfl) hb26 (by kernel_rfl) (fun _ _ => rfl) (k26 _ _ hi hq hAmb) ?_)
        intro v121 a w122 χ123 hE hp hS
        clear hq
        replace hO := hO.mv hE rfl rfl
        replace hAmb := hAmb.mv hE rfl
        clear hE
        obtain ⟨r124, hr⟩ : ∃ r, token_Digits hi = r := ⟨_, rfl⟩
        replace hm := hm r124 hr
        rw [hr] at hp
        clear hr
        subst hp
        refine opsP T hS 1 (sp := []) (ks := [44, 46, 47]) (bs := []) (sy' := ⟨[(44, B true), (46, V (.string (bs r124))), (47, I hi)], []⟩) (by kernel_rfl) ?_
        intro a hS
        obtain ⟨hq, hm⟩ := hm
        refine op1 (call hS (by kernel_rfl) (by kernel_rfl) hb27 (by kernel_rfl) (fun _ _ => rfl) (k27 _ _ hi hq) ?_)
        intro v125 a w126 χ127 hE hp hS
        clear hq
        replace hO := hO.mv hE rfl rfl
        replace hAmb := hAmb.mv hE rfl
        clear hE
        obtain ⟨r128, hr⟩ : ∃ r, ref05_Digits hi = r := ⟨_, rfl⟩
        replace hm := hm r128 hr
        rw [hr] at hp
        clear hr
        subst hp
        refine opsP T hS 3 (sp := []) (ks := [51]) (bs := []) (sy' := ⟨[(51, B (r124 == r128))], []⟩) (by kernel_rfl) ?_
        intro a hS
        rcases Bool.eq_false_or_eq_true (r124 == r128) with hb | hb
        · replace hS := hS.lit (t := 51) (by kernel_rfl) hb
          replace hm := hm.1 hb
          refine op1 (call hS (by kernel_rfl) (by kernel_rfl) hb15 (by kernel_rfl) (fun _ _ => rfl) (k15 _ _ hAmb) ?_)
          intro v129 a w130 χ131 hE hp hS
          replace hO := hO.mv hE rfl rfl
          replace hAmb := hAmb.mv hE rfl
          clear hE
          obtain ⟨r132, hr⟩ : ∃ r, law05_awake = r := ⟨_, rfl⟩
          replace hm := hm r132 hr
          rw [hr] at hp
          clear hr
          subst hp
          refine endP T hS (sp := []) (ks := [6]) (bs := []) (sy' := ⟨[(6, B r132)], []⟩) (by kernel_rfl) ?_
          intro a hS
          refine wret ?_
          exact fin T hS hO (fun c => c) rfl (r := [.bool r132]) (by kernel_rfl) (fun χ' hM hC => ⟨r132, hm, rfl⟩)
        · replace hS := hS.lit (t := 51) (by kernel_rfl) hb
          replace hm := hm.2 hb
          refine endP T hS (sp := []) (ks := [6]) (bs := []) (sy' := ⟨[(6, B false)], []⟩) (by kernel_rfl) ?_
          intro a hS
          refine wret ?_
          exact fin T hS hO (fun c => c) rfl (r := [.bool false]) (by kernel_rfl) (fun χ' hM hC => ⟨false, hm, rfl⟩)
      · replace hS := hS.lit (t := 44) (by kernel_rfl) hb
        replace hm := hm.2 hb
        refine endP T hS (sp := []) (ks := [6]) (bs := []) (sy' := ⟨[(6, B false)], []⟩) (by kernel_rfl) ?_
        intro a hS
        refine wret ?_
        exact fin T hS hO (fun c => c) rfl (r := [.bool false]) (by kernel_rfl) (fun χ' hM hC => ⟨false, hm, rfl⟩)
    · replace hS := hS.lit (t := 37) (by kernel_rfl) hb
      replace hm := hm.2 hb
      refine endP T hS (sp := []) (ks := [6]) (bs := []) (sy' := ⟨[(6, B false)], []⟩) (by kernel_rfl) ?_
      intro a hS
      refine wret ?_
      exact fin T hS hO (fun c => c) rfl (r := [.bool false]) (by kernel_rfl) (fun χ' hM hC => ⟨false, hm, rfl⟩)
/-- replevin/replevinlaw05.TokenWhole -/
theorem W5 (k15 : S15) (k16 : S16) (k20 : S20) (w0 : World) (χ0 : Nat → Nat) (s_ : List UInt8) (Q : Bool → Prop) (hm : VC5 s_ Q) (hAmb : Amb w0 χ0) :
    Ret Tryd.prog 5 #[.string (bs s_)] xnone w0 χ0 (fun w χ' v => ∃ r, Q r ∧ v = .bool r) := by
  unfold VC5 at hm
  refine enter Tryd.func5 rfl (vals := [.string (bs s_)]) (by kernel_rfl) ?_
  intro ρ a hS hO hM
  replace hAmb := hAmb.m0 hM
  clear hM
  refine regP T hS (sp := []) (ks := [0]) (bs := []) (sy' := ⟨[(0, V (.string (bs s_)))], []⟩) (by kernel_rfl) ?_
  intro a hS
  refine wseq ?_
  refine regP T hS (sp := []) (ks := [0, 12]) (bs := []) (sy' := ⟨[(0, V (.string (bs s_))), (12, B (decide (((s_.length : Nat) : Int) > 3000)))], []⟩) (by kernel_rfl) ?_
  intro a hS
  refine wcond hS (b := decide (((s_.length : Nat) : Int) > 3000)) (by kernel_rfl) (fun hb => ?_) (fun hb => ?_)
  · replace hm := hm.1 hb
    refine regO ?_
    refine op1 (call hS (by kernel_rfl) (by kernel_rfl) hb15 (by kernel_rfl) (fun _ _ => rfl) (k15 _ _ hAmb) ?_)
    intro v101 a w102 χ103 hE hp hS
    replace hO := hO.mv hE rfl rfl
    replace hAmb := hAmb.mv hE rfl
    clear hE
    obtain ⟨r104, hr⟩ : ∃ r, law05_awake = r := ⟨_, rfl⟩
    replace hm := hm r104 hr
    rw [hr] at hp
    clear hr
    subst hp
    refine endP T hS (sp := []) (ks := [2]) (bs := []) (sy' := ⟨[(2, B r104)], []⟩) (by kernel_rfl) ?_
    intro a hS
    refine wret ?_
    exact fin T hS hO (fun c => c) rfl (r := [.bool r104]) (by kernel_rfl) (fun χ' hM hC => ⟨r104, hm, rfl⟩)
  · replace hm := hm.2 hb
    refine wskip ?_
    refine regO ?_
    refine opsP T hS 1 (sp := []) (ks := [0, 14]) (bs := []) (sy' := ⟨[(0, V (.string (bs s_))), (14, V (.string (bs s_)))], []⟩) (by kernel_rfl) ?_
    intro a hS
    obtain ⟨hq, hm⟩ := hm
    refine op1 (call hS (by kernel_rfl) (by kernel_rfl) hb16 (by kernel_rfl) (fun _ _ => rfl) (k16 _ _ s_ hq) ?_)
    intro v105 a w106 χ107 hE hp hS
    clear hq
    replace hO := hO.mv hE rfl rfl
    replace hAmb := hAmb.mv hE rfl
    clear hE
    obtain ⟨a109, c110, hp, h111⟩ := hp
    obtain ⟨r108, hr⟩ : ∃ r, token_Lines s_ = r := ⟨_, rfl⟩
    replace hm := hm r108 hr
    rw [hr] at hp h111
    clear hr
    subst hp
    replace hm := hm (h111.sm (by kernel_rfl))
    refine endP T hS (sp := []) (ks := [0, 3]) (bs := []) (sy' := ⟨[(0, V (.string (bs s_))), (3, V (.slice a109 r108.length c110))], []⟩) (by kernel_rfl) ?_
    intro a hS
    refine regP T hS (sp := []) (ks := [0, 3, 4, 5]) (bs := []) (sy' := ⟨[(0, V (.string (bs s_))), (3, V (.slice a109 r108.length c110)), (4, I 0), (5, I 1)], []⟩) (by kernel_rfl) ?_
    intro a hS
    refine wcut (fun a w => ∃ (ρ : Nat → Nat) (χ : Nat → Nat), VC5_J1 Q ∧ St Tryd.f5.ntmps ⟨[], []⟩ ρ a w χ ∧ Old w0 χ0 w χ ∧ Amb w χ) ?_ ?_
    · refine regP T hS (sp := []) (ks := [0, 3, 4, 5, 6]) (bs := []) (sy' := ⟨[(0, V (.string (bs s_))), (3, V (.slice a109 r108.length c110)), (4, I 0), (5, I 1), (6, I 0)], []⟩) (by kernel_rfl) ?_
      intro a hS
      refine wblock ?_
      obtain ⟨I1, μ1, hm0, hm⟩ := hm
      refine wloop (σ := Int × Int × Int) (fun s a w => ∃ (ρ : Nat → Nat) (χ : Nat → Nat), I1 s.1 s.2.1 s.2.2 ∧ St Tryd.f5.ntmps ⟨[(0, V (.string (bs s_))), (3, V (.slice a109 r108.length c110)), (4, I s.1), (5, I s.2.1), (6, I s.2.2)], []⟩ ρ a w χ ∧ Old w0 χ0 w χ ∧ RS (tSlice tToken_Token) w χ a109 r108 c110 ∧ Amb w χ) (fun s => μ1 s.1 s.2.1 s.2.2) (⟨0, 1, 0⟩) ?_ ?_
      · exact ⟨ρ, _, hm0, hS.sel [0, 3, 4, 5, 6] [] (by kernel_rfl), hO, h111, hAmb⟩
      · rintro ⟨end_117, line_118, i_119⟩ a w180 ⟨ρ, χ179, hI, hS, hO, h116, hAmb⟩
        replace hm := hm end_117 line_118 i_119 hI
        clear hI hm0
        refine wseq ?_
        refine regP T hS (sp := []) (ks := [0, 3, 4, 5, 6, 19]) (bs := []) (sy' := ⟨[(0, V (.string (bs s_))), (3, V (.slice a109 r108.length c110)), (4, I end_117), (5, I line_118), (6, I i_119), (19, B (decide (i_119 < ((r108.length : Nat) : Int))))], []⟩) (by kernel_rfl) ?_
        intro a hS
        refine wcond hS (b := decide (i_119 < ((r108.length : Nat) : Int))) (by kernel_rfl) (fun hb => ?_) (fun hb => ?_)
        · replace hm := hm.1 hb
          refine wskip ?_
          refine wcut (fun a w => ∃ (ρ : Nat → Nat) (χ : Nat → Nat) (end_121 : Int) (line_122 : Int), VC5_J2 I1 μ1 end_117 line_118 i_119 end_121 line_122 ∧ St Tryd.f5.ntmps ⟨[(0, V (.string (bs s_))), (3, V (.slice a109 r108.length c110)), (4, I end_121), (5, I line_122), (6, I i_119)], []⟩ ρ a w χ ∧ Old w0 χ0 w χ ∧ RS (tSlice tToken_Token) w χ a109 r108 c110 ∧ Amb w χ) ?_ ?_
          · refine wblock ?_
            refine regP T hS (sp := []) (ks := [0, 3, 4, 5, 6, 7]) (bs := []) (sy' := ⟨[(0, V (.string (bs s_))), (3, V (.slice a109 r108.length c110)), (4, I end_117), (5, I line_118), (6, I i_119), (7, I 0)], []⟩) (by kernel_rfl) ?_
            intro a hS
            refine wblock ?_
            obtain ⟨I2, μ2, hm0, hm⟩ := hm
            refine wloop (σ := Int × Int × Int) (fun s a w => ∃ (ρ : Nat → Nat) (χ : Nat → Nat), I2 s.1 s.2.1 s.2.2 ∧ St Tryd.f5.ntmps ⟨[(0, V (.string (bs s_))), (3, V (.slice a109 r108.length c110)), (4, I s.1), (5, I s.2.1), (6, I i_119), (7, I s.2.2)], []⟩ ρ a w χ ∧ Old w0 χ0 w χ ∧ RS (tSlice tToken_Token) w χ a109 r108 c110 ∧ Amb w χ) (fun s => μ2 s.1 s.2.1 s.2.2) (⟨end_117, line_118, 0⟩) ?_ ?_
            · exact ⟨ρ, _, hm0, hS.sel [0, 3, 4, 5, 6, 7] [] (by kernel_rfl), hO, h116, hAmb⟩
            · rintro ⟨end_124, line_125, k_126⟩ a w176 ⟨ρ, χ175, hI, hS, hO, h123, hAmb⟩
              replace hm := hm end_124 line_125 k_126 hI
              clear hI hm0
              refine wseq ?_
              refine regO ?_
              refine opsP T hS 3 (sp := []) (ks := [0, 3, 4, 5, 6, 7, 22, 23, 24]) (bs := []) (sy' := ⟨[(0, V (.string (bs s_))), (3, V (.slice a109 r108.length c110)), (4, I end_124), (5, I line_125), (6, I i_119), (7, I k_126), (22, I k_126), (23, V (.slice a109 r108.length c110)), (24, I i_119)], []⟩) (by kernel_rfl) ?_
              intro a hS
              obtain ⟨hq, hm⟩ := hm
              refine op1 (index (e := 39) (k := .i64) T hS (by kernel_rfl) (by kernel_rfl) (by kernel_rfl) (by kernel_rfl) h123 (by kernel_rfl) (by kernel_rfl) hq.1 hq.2 ?_)
              intro A127 a h128 hS
              clear hq
              refine op1 (load1 T hS (by kernel_rfl) (by kernel_rfl) (by kernel_rfl) h128 rfl (by kernel_rfl) ?_)
              intro v129 a hv hS
              obtain ⟨a130, c131, hv, h132⟩ := hv
              cases hv
              replace hm := hm (h132.sm (by kernel_rfl))
              refine endP T hS (sp := []) (ks := [0, 3, 4, 5, 6, 7, 28]) (bs := []) (sy' := ⟨[(0, V (.string (bs s_))), (3, V (.slice a109 r108.length c110)), (4, I end_124), (5, I line_125), (6, I i_119), (7, I k_126), (28, B (decide (k_126 < (((gi r108 i_119).length : Nat) : Int))))], []⟩) (by kernel_rfl) ?_
              intro a hS
              refine wcond hS (b := decide (k_126 < (((gi r108 i_119).length : Nat) : Int))) (by kernel_rfl) (fun hb => ?_) (fun hb => ?_)
              · replace hm := hm.1 hb
                refine wskip ?_
                refine wseq ?_
                refine wblock ?_
                refine regO ?_
                refine opsP T hS 2 (sp := []) (ks := [0, 3, 4, 5, 6, 7, 31, 32]) (bs := []) (sy' := ⟨[(0, V (.string (bs s_))), (3, V (.slice a109 r108.length c110)), (4, I end_124), (5, I line_125), (6, I i_119), (7, I k_126), (31, V (.slice a109 r108.length c110)), (32, I i_119)], []⟩) (by kernel_rfl) ?_
                intro a hS
                obtain ⟨hq, hm⟩ := hm
                refine op1 (index (e := 39) (k := .i64) T hS (by kernel_rfl) (by kernel_rfl) (by kernel_rfl) (by kernel_rfl) h123 (by kernel_rfl) (by kernel_rfl) hq.1 hq.2 ?_)
                intro A133 a h134 hS
                clear hq
                refine op1 (load1 T hS (by kernel_rfl) (by kernel_rfl) (by kernel_rfl) h134 rfl (by kernel_rfl) ?_)
                intro v135 a hv hS
                obtain ⟨a136, c137, hv, h138⟩ := hv
                cases hv
                replace hm := hm (h138.sm (by kernel_rfl))
                refine opsP T hS 1 (sp := []) (ks := [0, 3, 4, 5, 6, 7, 34, 35]) (bs := []) (sy' := ⟨[(0, V (.string (bs s_))), (3, V (.slice a109 r108.length c110)), (4, I end_124), (5, I line_125), (6, I i_119), (7, I k_126), (34, V (.slice a136 (gi r108 i_119).length c137)), (35, I k_126)], []⟩) (by kernel_rfl) ?_
                intro a hS
                obtain ⟨hq, hm⟩ := hm
                refine op1 (index (e := 41) (k := .i64) T hS (by kernel_rfl) (by kernel_rfl) (by kernel_rfl) (by kernel_rfl) h138 (by kernel_rfl) (by kernel_rfl) hq.1 hq.2 ?_)
                intro A139 a h140 hS
                clear hq
                refine op1 (loadA T hS (by kernel_rfl) (by kernel_rfl) (by kernel_rfl) h140 (by kernel_rfl) (by kernel_rfl) ?_)
                intro v141 a hv hS
                subst hv
                refine endM T hS (sp := []) (ks := [0, 3, 4, 5, 6, 7, 8]) (bs := [9]) (sy' := ⟨[(0, V (.string (bs s_))), (3, V (.slice a109 r108.length c110)), (4, I end_124), (5, I line_125), (6, I i_119), (7, I k_126), (8, Pt 9 0)], [(9, (41, [I ((gi (gi r108 i_119) k_126).Line), I ((gi (gi r108 i_119) k_126).At), V (.string (bs ((gi (gi r108 i_119) k_126).Text)))]))]⟩) (by kernel_rfl) ?_
                intro ρ a w173 χ174 hS hE hr
                replace hO := hO.mv hE rfl rfl
                replace h123 := h123.mv hE rfl
                replace hAmb := hAmb.mv hE rfl
                clear hE hr
                refine wseq ?_
                refine wcut (fun a w => ∃ (ρ : Nat → Nat) (χ : Nat → Nat) (x_143 : Bool), VC5_J3 s_ Q r108 i_119 I2 μ2 end_124 line_125 k_126 x_143 ∧ St Tryd.f5.ntmps ⟨[(0, V (.string (bs s_))), (3, V (.slice a109 r108.length c110)), (4, I end_124), (5, I line_125), (6, I i_119), (7, I k_126), (8, Pt 9 0), (80, B x_143)], [(9, (41, [I ((gi (gi r108 i_119) k_126).Line), I ((gi (gi r108 i_119) k_126).At), V (.string (bs ((gi (gi r108 i_119) k_126).Text)))]))]⟩ ρ a w χ ∧ Old w0 χ0 w χ ∧ RS (tSlice tToken_Token) w χ a109 r108 c110 ∧ Amb w χ) ?_ ?_
                · refine drawnX [9] mixed hS ?_
                  intro w165 χ166 hS hE hD hH
                  replace hO := hO.mv hE rfl rfl
                  replace h123 := h123.mv hE rfl
                  replace hAmb := hAmb.mv hE rfl
                  clear hE
                  refine take T [0, 2, 1, 3, 4] [9] [0, 3, 4, 5, 6, 7, 8, 42] hS (by kernel_rfl) (by kernel_rfl) (by kernel_rfl) hH (listed' := #[true, true, true, true, true, false, false, false, false, false, false, false, false, false, false, false, false, false, false, false, false, false, false, false, false, false, false, false, false, false, false, false, false, false, false, false, false, false, false, false, false, false, false]) (fuel := 38) (sy' := ⟨[(0, V (.string (bs s_))), (3, V (.slice a109 r108.length c110)), (4, I end_124), (5, I line_125), (6, I i_119), (7, I k_126), (8, Pt 9 0), (42, B (decide (((gi (gi r108 i_119) k_126).At) < end_124)))], [(9, (41, [I ((gi (gi r108 i_119) k_126).Line), I ((gi (gi r108 i_119) k_126).At), V (.string (bs ((gi (gi r108 i_119) k_126).Text)))]))]⟩) (by as_aux_lemma => kernel_rfl) (by rfl) ?_
                  intro a hS
                  rcases Bool.eq_false_or_eq_true (decide (((gi (gi r108 i_119) k_126).At) < end_124)) with hb | hb
                  · replace hS := hS.lit (t := 42) (by kernel_rfl) hb
                    replace hm := hm.1 hb
                    refine take T [5, 7, 9, 6, 8, 10, 11, 12, 13, 14, 15, 16, 17, 19, 21, 26, 18, 20, 22, 27, 23, 24, 25, 28, 29, 30, 31, 32, 33, 34, 35, 36, 37, 39, 38, 40, 41, 42] [9] [0, 3, 4, 5, 6, 7, 8, 43, 44, 45, 46, 47, 48, 49, 50, 51, 54, 55, 56, 57, 58, 59, 60, 61, 62, 63, 64, 65, 66, 69, 70, 71, 72, 75, 76, 77, 78, 79, 80] hS (by kernel_rfl) (by kernel_rfl) (by kernel_rfl) hH (listed' := #[true, true, true, true, true, true, true, true, true, true, true, true, true, true, true, true, true, true, true, true, true, true, true, true, true, true, true, true, true, true, true, true, true, true, true, true, true, true, true, true, true, true, true]) (fuel := 0) (sy' := ⟨[(0, V (.string (bs s_))), (3, V (.slice a109 r108.length c110)), (4, I end_124), (5, I line_125), (6, I i_119), (7, I k_126), (8, Pt 9 0), (43, V undef), (44, V undef), (45, V undef), (46, V undef), (47, V undef), (48, V undef), (49, V undef), (50, V undef), (51, V undef), (54, V undef), (55, V undef), (56, V undef), (57, V undef), (58, V undef), (59, V undef), (60, V undef), (61, V undef), (62, V undef), (63, V undef), (64, V undef), (65, V undef), (66, V undef), (69, V undef), (70, V undef), (71, V undef), (72, V undef), (75, V undef), (76, V undef), (77, V undef), (78, V undef), (79, V undef), (80, B true)], [(9, (41, [I ((gi (gi r108 i_119) k_126).Line), I ((gi (gi r108 i_119) k_126).At), V (.string (bs ((gi (gi r108 i_119) k_126).Text)))]))]⟩) (by as_aux_lemma => kernel_rfl) (by rfl) ?_
                    intro a hS
                    refine drawnDone (by kernel_rfl) ?_
                    clear hD hH
                    replace hS := hS.sel [0, 3, 4, 5, 6, 7, 8, 80] [9] (sy' := ⟨[(0, V (.string (bs s_))), (3, V (.slice a109 r108.length c110)), (4, I end_124), (5, I line_125), (6, I i_119), (7, I k_126), (8, Pt 9 0), (80, B true)], [(9, (41, [I ((gi (gi r108 i_119) k_126).Line), I ((gi (gi r108 i_119) k_126).At), V (.string (bs ((gi (gi r108 i_119) k_126).Text)))]))]⟩) (by kernel_rfl)
                    exact ⟨ρ, _, true, hm, hS.sel [0, 3, 4, 5, 6, 7, 8, 80] [9] (by kernel_rfl), hO, h123, hAmb⟩
                  · replace hS := hS.lit (t := 42) (by kernel_rfl) hb
                    replace hm := hm.2 hb
                    refine take T [5, 7, 9, 6, 8, 10, 11, 12, 13, 14, 15] [9] [0, 3, 4, 5, 6, 7, 8, 43, 44, 45, 46, 47, 48, 49, 50, 51, 53] hS (by kernel_rfl) (by kernel_rfl) (by kernel_rfl) hH (listed' := #[true, true, true, true, true, true, true, true, true, true, true, true, true, true, true, true, false, false, false, false, false, false, false, false, false, false, false, false, false, false, false, false, false, false, false, false, false, false, false, false, false, false, false]) (fuel := 27) (sy' := ⟨[(0, V (.string (bs s_))), (3, V (.slice a109 r108.length c110)), (4, I end_124), (5, I line_125), (6, I i_119), (7, I k_126), (8, Pt 9 0), (43, Pt 9 1), (44, I ((gi (gi r108 i_119) k_126).At)), (45, V (.string (bs s_))), (46, I ((s_.length : Nat) : Int)), (47, Pt 9 2), (48, V (.string (bs ((gi (gi r108 i_119) k_126).Text)))), (49, I ((((gi (gi r108 i_119) k_126).Text).length : Nat) : Int)), (50, I (IntKind.i64.wrap (((s_.length : Nat) : Int) - ((((gi (gi r108 i_119) k_126).Text).length : Nat) : Int)))), (51, B (decide (((gi (gi r108 i_119) k_126).At) > (IntKind.i64.wrap (((s_.length : Nat) : Int) - ((((gi (gi r108 i_119) k_126).Text).length : Nat) : Int)))))), (53, B (decide (((gi (gi r108 i_119) k_126).At) > (IntKind.i64.wrap (((s_.length : Nat) : Int) - ((((gi (gi r108 i_119) k_126).Text).length : Nat) : Int))))))], [(9, (41, [I ((gi (gi r108 i_119) k_126).Line), I ((gi (gi r108 i_119) k_126).At), V (.string (bs ((gi (gi r108 i_119) k_126).Text)))]))]⟩) (by as_aux_lemma => kernel_rfl) (by rfl) ?_
                    intro a hS
                    rcases Bool.eq_false_or_eq_true (decide (((gi (gi r108 i_119) k_126).At) > (IntKind.i64.wrap (((s_.length : Nat) : Int) - ((((gi (gi r108 i_119) k_126).Text).length : Nat) : Int))))) with hb | hb
                    · replace hS := hS.lit (t := 53) (by kernel_rfl) hb
                      replace hm := hm.1 hb
                      refine take T [16, 17, 19, 21, 26, 18, 20, 22, 27, 23, 24, 25, 28, 29, 30, 31, 32, 33, 34, 35, 36, 37, 39, 38, 40, 41, 42] [9] [0, 3, 4, 5, 6, 7, 8, 43, 44, 45, 46, 47, 48, 49, 50, 51, 54, 55, 56, 57, 58, 59, 60, 61, 62, 63, 64, 65, 66, 69, 70, 71, 72, 75, 76, 77, 78, 79, 80] hS (by kernel_rfl) (by kernel_rfl) (by kernel_rfl) hH (listed' := #[true, true, true, true, true, true, true, true, true, true, true, true, true, true, true, true, true, true, true, true, true, true, true, true, true, true, true, true, true, true, true, true, true, true, true, true, true, true, true, true, true, true, true]) (fuel := 0) (sy' := ⟨[(0, V (.string (bs s_))), (3, V (.slice a109 r108.length c110)), (4, I end_124), (5, I line_125), (6, I i_119), (7, I k_126), (8, Pt 9 0), (43, Pt 9 1), (44, I ((gi (gi r108 i_119) k_126).At)), (45, V (.string (bs s_))), (46, I ((s_.length : Nat) : Int)), (47, Pt 9 2), (48, V (.string (bs ((gi (gi r108 i_119) k_126).Text)))), (49, I ((((gi (gi r108 i_119) k_126).Text).length : Nat) : Int)), (50, I (IntKind.i64.wrap (((s_.length : Nat) : Int) - ((((gi (gi r108 i_119) k_126).Text).length : Nat) : Int)))), (51, B (decide (((gi (gi r108 i_119) k_126).At) > (IntKind.i64.wrap (((s_.length : Nat) : Int) - ((((gi (gi r108 i_119) k_126).Text).length : Nat) : Int)))))), (54, V undef), (55, V undef), (56, V undef), (57, V undef), (58, V undef), (59, V undef), (60, V undef), (61, V undef), (62, V undef), (63, V undef), (64, V undef), (65, V undef), (66, V undef), (69, V undef), (70, V undef), (71, V undef), (72, V undef), (75, V undef), (76, V undef), (77, V undef), (78, V undef), (79, V undef), (80, B true)], [(9, (41, [I ((gi (gi r108 i_119) k_126).Line), I ((gi (gi r108 i_119) k_126).At), V (.string (bs ((gi (gi r108 i_119) k_126).Text)))]))]⟩) (by as_aux_lemma => kernel_rfl) (by rfl) ?_
                      intro a hS
                      refine drawnDone (by kernel_rfl) ?_
                      clear hD hH
                      replace hS := hS.sel [0, 3, 4, 5, 6, 7, 8, 43, 44, 45, 46, 47, 48, 49, 50, 51, 80] [9] (sy' := ⟨[(0, V (.string (bs s_))), (3, V (.slice a109 r108.length c110)), (4, I end_124), (5, I line_125), (6, I i_119), (7, I k_126), (8, Pt 9 0), (43, Pt 9 1), (44, I ((gi (gi r108 i_119) k_126).At)), (45, V (.string (bs s_))), (46, I ((s_.length : Nat) : Int)), (47, Pt 9 2), (48, V (.string (bs ((gi (gi r108 i_119) k_126).Text)))), (49, I ((((gi (gi r108 i_119) k_126).Text).length : Nat) : Int)), (50, I (IntKind.i64.wrap (((s_.length : Nat) : Int) - ((((gi (gi r108 i_119) k_126).Text).length : Nat) : Int)))), (51, B (decide (((gi (gi r108 i_119) k_126).At) > (IntKind.i64.wrap (((s_.length : Nat) : Int) - ((((gi (gi r108 i_119) k_126).Text).length : Nat) : Int)))))), (80, B true)], [(9, (41, [I ((gi (gi r108 i_119) k_126).Line), I ((gi (gi r108 i_119) k_126).At), V (.string (bs ((gi (gi r108 i_119) k_126).Text)))]))]⟩) (by kernel_rfl)
                      exact ⟨ρ, _, true, hm, hS.sel [0, 3, 4, 5, 6, 7, 8, 80] [9] (by kernel_rfl), hO, h123, hAmb⟩
                    · replace hS := hS.lit (t := 53) (by kernel_rfl) hb
                      replace hm := hm.2 hb
                      refine take T [16, 17, 19, 21, 26, 18, 20, 22, 27, 23, 24] [9] [0, 3, 4, 5, 6, 7, 8, 43, 44, 45, 46, 47, 48, 49, 50, 51, 53, 54, 55, 56, 57, 58, 59, 60, 61, 62, 64, 65] hS (by kernel_rfl) (by kernel_rfl) (by kernel_rfl) hH (listed' := #[true, true, true, true, true, true, true, true, true, true, true, true, true, true, true, true, true, true, true, true, true, true, true, true, true, false, true, true, false, false, false, false, false, false, false, false, false, false, false, false, false, false, false]) (fuel := 16) (sy' := ⟨[(0, V (.string (bs s_))), (3, V (.slice a109 r108.length c110)), (4, I end_124), (5, I line_125), (6, I i_119), (7, I k_126), (8, Pt 9 0), (43, Pt 9 1), (44, I ((gi (gi r108 i_119) k_126).At)), (45, V (.string (bs s_))), (46, I ((s_.length : Nat) : Int)), (47, Pt 9 2), (48, V (.string (bs ((gi (gi r108 i_119) k_126).Text)))), (49, I ((((gi (gi r108 i_119) k_126).Text).length : Nat) : Int)), (50, I (IntKind.i64.wrap (((s_.length : Nat) : Int) - ((((gi (gi r108 i_119) k_126).Text).length : Nat) : Int)))), (51, B (decide (((gi (gi r108 i_119) k_126).At) > (IntKind.i64.wrap (((s_.length : Nat) : Int) - ((((gi (gi r108 i_119) k_126).Text).length : Nat) : Int)))))), (53, B false), (54, V (.string (bs s_))), (55, Pt 9 1), (56, I ((gi (gi r108 i_119) k_126).At)), (57, Pt 9 1), (58, I ((gi (gi r108 i_119) k_126).At)), (59, Pt 9 2), (60, V (.string (bs ((gi (gi r108 i_119) k_126).Text)))), (61, I ((((gi (gi r108 i_119) k_126).Text).length : Nat) : Int)), (62, I (IntKind.i64.wrap (((gi (gi r108 i_119) k_126).At) + ((((gi (gi r108 i_119) k_126).Text).length : Nat) : Int)))), (64, Pt 9 2), (65, V (.string (bs ((gi (gi r108 i_119) k_126).Text))))], [(9, (41, [I ((gi (gi r108 i_119) k_126).Line), I ((gi (gi r108 i_119) k_126).At), V (.string (bs ((gi (gi r108 i_119) k_126).Text)))]))]⟩) (by as_aux_lemma => kernel_rfl) (by rfl) ?_
                      intro a hS
                      obtain ⟨hq, hm⟩ := hm
                      refine dsslice2 (kl := .i64) (kh := .i64) (s := s_) T 25 hS (by kernel_rfl) (by kernel_rfl) (by kernel_rfl) (by rfl) (by kernel_rfl) hH (by kernel_rfl) (by kernel_rfl) (by kernel_rfl) (by kernel_rfl) hq.1 hq.2.1 hq.2.2 ?_
                      intro a hS
                      clear hq
                      refine take T [28, 29, 30] [9] [0, 3, 4, 5, 6, 7, 8, 43, 44, 45, 46, 47, 48, 49, 50, 51, 54, 55, 56, 57, 58, 59, 60, 61, 62, 63, 64, 65, 66, 68] hS (by kernel_rfl) (by kernel_rfl) (by kernel_rfl) hH (listed' := #[true, true, true, true, true, true, true, true, true, true, true, true, true, true, true, true, true, true, true, true, true, true, true, true, true, true, true, true, true, true, true, false, false, false, false, false, false, false, false, false, false, false, false]) (fuel := 12) (sy' := ⟨[(0, V (.string (bs s_))), (3, V (.slice a109 r108.length c110)), (4, I end_124), (5, I line_125), (6, I i_119), (7, I k_126), (8, Pt 9 0), (43, Pt 9 1), (44, I ((gi (gi r108 i_119) k_126).At)), (45, V (.string (bs s_))), (46, I ((s_.length : Nat) : Int)), (47, Pt 9 2), (48, V (.string (bs ((gi (gi r108 i_119) k_126).Text)))), (49, I ((((gi (gi r108 i_119) k_126).Text).length : Nat) : Int)), (50, I (IntKind.i64.wrap (((s_.length : Nat) : Int) - ((((gi (gi r108 i_119) k_126).Text).length : Nat) : Int)))), (51, B (decide (((gi (gi r108 i_119) k_126).At) > (IntKind.i64.wrap (((s_.length : Nat) : Int) - ((((gi (gi r108 i_119) k_126).Text).length : Nat) : Int)))))), (54, V (.string (bs s_))), (55, Pt 9 1), (56, I ((gi (gi r108 i_119) k_126).At)), (57, Pt 9 1), (58, I ((gi (gi r108 i_119) k_126).At)), (59, Pt 9 2), (60, V (.string (bs ((gi (gi r108 i_119) k_126).Text)))), (61, I ((((gi (gi r108 i_119) k_126).Text).length : Nat) : Int)), (62, I (IntKind.i64.wrap (((gi (gi r108 i_119) k_126).At) + ((((gi (gi r108 i_119) k_126).Text).length : Nat) : Int)))), (63, V (.string (bs ((s_.take (IntKind.i64.wrap (((gi (gi r108 i_119) k_126).At) + ((((gi (gi r108 i_119) k_126).Text).length : Nat) : Int))).toNat).drop ((gi (gi r108 i_119) k_126).At).toNat)))), (64, Pt 9 2), (65, V (.string (bs ((gi (gi r108 i_119) k_126).Text)))), (66, B (!(((s_.take (IntKind.i64.wrap (((gi (gi r108 i_119) k_126).At) + ((((gi (gi r108 i_119) k_126).Text).length : Nat) : Int))).toNat).drop ((gi (gi r108 i_119) k_126).At).toNat) == ((gi (gi r108 i_119) k_126).Text)))), (68, B (!(((s_.take (IntKind.i64.wrap (((gi (gi r108 i_119) k_126).At) + ((((gi (gi r108 i_119) k_126).Text).length : Nat) : Int))).toNat).drop ((gi (gi r108 i_119) k_126).At).toNat) == ((gi (gi r108 i_119) k_126).Text))))], [(9, (41, [I ((gi (gi r108 i_119) k_126).Line), I ((gi (gi r108 i_119) k_126).At), V (.string (bs ((gi (gi r108 i_119) k_126).Text)))]))]⟩) (by as_aux_lemma => kernel_rfl) (by rfl) ?_
                      intro a hS
                      rcases Bool.eq_false_or_eq_true (!(((s_.take (IntKind.i64.wrap (((gi (gi r108 i_119) k_126).At) + ((((gi (gi r108 i_119) k_126).Text).length : Nat) : Int))).toNat).drop ((gi (gi r108 i_119) k_126).At).toNat) == ((gi (gi r108 i_119) k_126).Text))) with hb | hb
                      · replace hS := hS.lit (t := 68) (by kernel_rfl) hb
                        replace hm := hm.1 hb
                        refine take T [31, 32, 33, 34, 35, 36, 37, 39, 38, 40, 41, 42] [9] [0, 3, 4, 5, 6, 7, 8, 43, 44, 45, 46, 47, 48, 49, 50, 51, 54, 55, 56, 57, 58, 59, 60, 61, 62, 63, 64, 65, 66, 69, 70, 71, 72, 75, 76, 77, 78, 79, 80] hS (by kernel_rfl) (by kernel_rfl) (by kernel_rfl) hH (listed' := #[true, true, true, true, true, true, true, true, true, true, true, true, true, true, true, true, true, true, true, true, true, true, true, true, true, true, true, true, true, true, true, true, true, true, true, true, true, true, true, true, true, true, true]) (fuel := 0) (sy' := ⟨[(0, V (.string (bs s_))), (3, V (.slice a109 r108.length c110)), (4, I end_124), (5, I line_125), (6, I i_119), (7, I k_126), (8, Pt 9 0), (43, Pt 9 1), (44, I ((gi (gi r108 i_119) k_126).At)), (45, V (.string (bs s_))), (46, I ((s_.length : Nat) : Int)), (47, Pt 9 2), (48, V (.string (bs ((gi (gi r108 i_119) k_126).Text)))), (49, I ((((gi (gi r108 i_119) k_126).Text).length : Nat) : Int)), (50, I (IntKind.i64.wrap (((s_.length : Nat) : Int) - ((((gi (gi r108 i_119) k_126).Text).length : Nat) : Int)))), (51, B (decide (((gi (gi r108 i_119) k_126).At) > (IntKind.i64.wrap (((s_.length : Nat) : Int) - ((((gi (gi r108 i_119) k_126).Text).length : Nat) : Int)))))), (54, V (.string (bs s_))), (55, Pt 9 1), (56, I ((gi (gi r108 i_119) k_126).At)), (57, Pt 9 1), (58, I ((gi (gi r108 i_119) k_126).At)), (59, Pt 9 2), (60, V (.string (bs ((gi (gi r108 i_119) k_126).Text)))), (61, I ((((gi (gi r108 i_119) k_126).Text).length : Nat) : Int)), (62, I (IntKind.i64.wrap (((gi (gi r108 i_119) k_126).At) + ((((gi (gi r108 i_119) k_126).Text).length : Nat) : Int)))), (63, V (.string (bs ((s_.take (IntKind.i64.wrap (((gi (gi r108 i_119) k_126).At) + ((((gi (gi r108 i_119) k_126).Text).length : Nat) : Int))).toNat).drop ((gi (gi r108 i_119) k_126).At).toNat)))), (64, Pt 9 2), (65, V (.string (bs ((gi (gi r108 i_119) k_126).Text)))), (66, B (!(((s_.take (IntKind.i64.wrap (((gi (gi r108 i_119) k_126).At) + ((((gi (gi r108 i_119) k_126).Text).length : Nat) : Int))).toNat).drop ((gi (gi r108 i_119) k_126).At).toNat) == ((gi (gi r108 i_119) k_126).Text)))), (69, V undef), (70, V undef), (71, V undef), (72, V undef), (75, V undef), (76, V undef), (77, V undef), (78, V undef), (79, V undef), (80, B true)], [(9, (41, [I ((gi (gi r108 i_119) k_126).Line), I ((gi (gi r108 i_119) k_126).At), V (.string (bs ((gi (gi r108 i_119) k_126).Text)))]))]⟩) (by as_aux_lemma => kernel_rfl) (by rfl) ?_
                        intro a hS
                        refine drawnDone (by kernel_rfl) ?_
                        clear hD hH
                        replace hS := hS.sel [0, 3, 4, 5, 6, 7, 8, 43, 44, 45, 46, 47, 48, 49, 50, 51, 54, 55, 56, 57, 58, 59, 60, 61, 62, 63, 64, 65, 66, 80] [9] (sy' := ⟨[(0, V (.string (bs s_))), (3, V (.slice a109 r108.length c110)), (4, I end_124), (5, I line_125), (6, I i_119), (7, I k_126), (8, Pt 9 0), (43, Pt 9 1), (44, I ((gi (gi r108 i_119) k_126).At)), (45, V (.string (bs s_))), (46, I ((s_.length : Nat) : Int)), (47, Pt 9 2), (48, V (.string (bs ((gi (gi r108 i_119) k_126).Text)))), (49, I ((((gi (gi r108 i_119) k_126).Text).length : Nat) : Int)), (50, I (IntKind.i64.wrap (((s_.length : Nat) : Int) - ((((gi (gi r108 i_119) k_126).Text).length : Nat) : Int)))), (51, B (decide (((gi (gi r108 i_119) k_126).At) > (IntKind.i64.wrap (((s_.length : Nat) : Int) - ((((gi (gi r108 i_119) k_126).Text).length : Nat) : Int)))))), (54, V (.string (bs s_))), (55, Pt 9 1), (56, I ((gi (gi r108 i_119) k_126).At)), (57, Pt 9 1), (58, I ((gi (gi r108 i_119) k_126).At)), (59, Pt 9 2), (60, V (.string (bs ((gi (gi r108 i_119) k_126).Text)))), (61, I ((((gi (gi r108 i_119) k_126).Text).length : Nat) : Int)), (62, I (IntKind.i64.wrap (((gi (gi r108 i_119) k_126).At) + ((((gi (gi r108 i_119) k_126).Text).length : Nat) : Int)))), (63, V (.string (bs ((s_.take (IntKind.i64.wrap (((gi (gi r108 i_119) k_126).At) + ((((gi (gi r108 i_119) k_126).Text).length : Nat) : Int))).toNat).drop ((gi (gi r108 i_119) k_126).At).toNat)))), (64, Pt 9 2), (65, V (.string (bs ((gi (gi r108 i_119) k_126).Text)))), (66, B (!(((s_.take (IntKind.i64.wrap (((gi (gi r108 i_119) k_126).At) + ((((gi (gi r108 i_119) k_126).Text).length : Nat) : Int))).toNat).drop ((gi (gi r108 i_119) k_126).At).toNat) == ((gi (gi r108 i_119) k_126).Text)))), (80, B true)], [(9, (41, [I ((gi (gi r108 i_119) k_126).Line), I ((gi (gi r108 i_119) k_126).At), V (.string (bs ((gi (gi r108 i_119) k_126).Text)))]))]⟩) (by kernel_rfl)
                        exact ⟨ρ, _, true, hm, hS.sel [0, 3, 4, 5, 6, 7, 8, 80] [9] (by kernel_rfl), hO, h123, hAmb⟩
                      · replace hS := hS.lit (t := 68) (by kernel_rfl) hb
                        replace hm := hm.2 hb
                        refine take T [31, 32] [9] [0, 3, 4, 5, 6, 7, 8, 43, 44, 45, 46, 47, 48, 49, 50, 51, 54, 55, 56, 57, 58, 59, 60, 61, 62, 63, 64, 65, 66, 68, 69, 70] hS (by kernel_rfl) (by kernel_rfl) (by kernel_rfl) hH (listed' := #[true, true, true, true, true, true, true, true, true, true, true, true, true, true, true, true, true, true, true, true, true, true, true, true, true, true, true, true, true, true, true, true, true, false, false, false, false, false, false, false, false, false, false]) (fuel := 10) (sy' := ⟨[(0, V (.string (bs s_))), (3, V (.slice a109 r108.length c110)), (4, I end_124), (5, I line_125), (6, I i_119), (7, I k_126), (8, Pt 9 0), (43, Pt 9 1), (44, I ((gi (gi r108 i_119) k_126).At)), (45, V (.string (bs s_))), (46, I ((s_.length : Nat) : Int)), (47, Pt 9 2), (48, V (.string (bs ((gi (gi r108 i_119) k_126).Text)))), (49, I ((((gi (gi r108 i_119) k_126).Text).length : Nat) : Int)), (50, I (IntKind.i64.wrap (((s_.length : Nat) : Int) - ((((gi (gi r108 i_119) k_126).Text).length : Nat) : Int)))), (51, B (decide (((gi (gi r108 i_119) k_126).At) > (IntKind.i64.wrap (((s_.length : Nat) : Int) - ((((gi (gi r108 i_119) k_126).Text).length : Nat) : Int)))))), (54, V (.string (bs s_))), (55, Pt 9 1), (56, I ((gi (gi r108 i_119) k_126).At)), (57, Pt 9 1), (58, I ((gi (gi r108 i_119) k_126).At)), (59, Pt 9 2), (60, V (.string (bs ((gi (gi r108 i_119) k_126).Text)))), (61, I ((((gi (gi r108 i_119) k_126).Text).length : Nat) : Int)), (62, I (IntKind.i64.wrap (((gi (gi r108 i_119) k_126).At) + ((((gi (gi r108 i_119) k_126).Text).length : Nat) : Int)))), (63, V (.string (bs ((s_.take (IntKind.i64.wrap (((gi (gi r108 i_119) k_126).At) + ((((gi (gi r108 i_119) k_126).Text).length : Nat) : Int))).toNat).drop ((gi (gi r108 i_119) k_126).At).toNat)))), (64, Pt 9 2), (65, V (.string (bs ((gi (gi r108 i_119) k_126).Text)))), (66, B (!(((s_.take (IntKind.i64.wrap (((gi (gi r108 i_119) k_126).At) + ((((gi (gi r108 i_119) k_126).Text).length : Nat) : Int))).toNat).drop ((gi (gi r108 i_119) k_126).At).toNat) == ((gi (gi r108 i_119) k_126).Text)))), (68, B false), (69, Pt 9 2), (70, V (.string (bs ((gi (gi r108 i_119) k_126).Text))))], [(9, (41, [I ((gi (gi r108 i_119) k_126).Line), I ((gi (gi r108 i_119) k_126).At), V (.string (bs ((gi (gi r108 i_119) k_126).Text)))]))]⟩) (by as_aux_lemma => kernel_rfl) (by rfl) ?_
                        intro a hS
                        obtain ⟨hq, hm⟩ := hm
                        refine only 33 (by kernel_rfl) (by rfl) (call hS (by kernel_rfl) (by kernel_rfl) hb20 (by kernel_rfl) (fun _ _ => rfl) (k20 _ _ ((gi (gi r108 i_119) k_126).Text) hq) ?_)
                        intro v167 a w168 χ169 hE hp hS
                        clear hq
                        replace hO := hO.mv hE rfl rfl
                        replace hD := hD.ev hE rfl
                        replace h123 := h123.mv hE rfl
                        replace hAmb := hAmb.mv hE rfl
                        clear hE
                        obtain ⟨r170, hr⟩ : ∃ r, token_Word ((gi (gi r108 i_119) k_126).Text) = r := ⟨_, rfl⟩
                        replace hm := hm r170 hr
                        rw [hr] at hp
                        clear hr
                        subst hp
                        replace hS := hS.sel [0, 3, 4, 5, 6, 7, 8, 43, 44, 45, 46, 47, 48, 49, 50, 51, 54, 55, 56, 57, 58, 59, 60, 61, 62, 63, 64, 65, 66, 68, 69, 70, 71] [9] (sy' := ⟨[(0, V (.string (bs s_))), (3, V (.slice a109 r108.length c110)), (4, I end_124), (5, I line_125), (6, I i_119), (7, I k_126), (8, Pt 9 0), (43, Pt 9 1), (44, I ((gi (gi r108 i_119) k_126).At)), (45, V (.string (bs s_))), (46, I ((s_.length : Nat) : Int)), (47, Pt 9 2), (48, V (.string (bs ((gi (gi r108 i_119) k_126).Text)))), (49, I ((((gi (gi r108 i_119) k_126).Text).length : Nat) : Int)), (50, I (IntKind.i64.wrap (((s_.length : Nat) : Int) - ((((gi (gi r108 i_119) k_126).Text).length : Nat) : Int)))), (51, B (decide (((gi (gi r108 i_119) k_126).At) > (IntKind.i64.wrap (((s_.length : Nat) : Int) - ((((gi (gi r108 i_119) k_126).Text).length : Nat) : Int)))))), (54, V (.string (bs s_))), (55, Pt 9 1), (56, I ((gi (gi r108 i_119) k_126).At)), (57, Pt 9 1), (58, I ((gi (gi r108 i_119) k_126).At)), (59, Pt 9 2), (60, V (.string (bs ((gi (gi r108 i_119) k_126).Text)))), (61, I ((((gi (gi r108 i_119) k_126).Text).length : Nat) : Int)), (62, I (IntKind.i64.wrap (((gi (gi r108 i_119) k_126).At) + ((((gi (gi r108 i_119) k_126).Text).length : Nat) : Int)))), (63, V (.string (bs ((s_.take (IntKind.i64.wrap (((gi (gi r108 i_119) k_126).At) + ((((gi (gi r108 i_119) k_126).Text).length : Nat) : Int))).toNat).drop ((gi (gi r108 i_119) k_126).At).toNat)))), (64, Pt 9 2), (65, V (.string (bs ((gi (gi r108 i_119) k_126).Text)))), (66, B (!(((s_.take (IntKind.i64.wrap (((gi (gi r108 i_119) k_126).At) + ((((gi (gi r108 i_119) k_126).Text).length : Nat) : Int))).toNat).drop ((gi (gi r108 i_119) k_126).At).toNat) == ((gi (gi r108 i_119) k_126).Text)))), (68, B false), (69, Pt 9 2), (70, V (.string (bs ((gi (gi r108 i_119) k_126).Text)))), (71, B r170)], [(9, (41, [I ((gi (gi r108 i_119) k_126).Line), I ((gi (gi r108 i_119) k_126).At), V (.string (bs ((gi (gi r108 i_119) k_126).Text)))]))]⟩) (by kernel_rfl)
                        refine andH (Hold.of hS (bks := [9]) (by kernel_rfl) hD) ?_
                        intro hH
                        refine take T [34, 35, 36] [9] [0, 3, 4, 5, 6, 7, 8, 43, 44, 45, 46, 47, 48, 49, 50, 51, 54, 55, 56, 57, 58, 59, 60, 61, 62, 63, 64, 65, 66, 69, 70, 71, 72, 74] hS (by kernel_rfl) (by kernel_rfl) (by kernel_rfl) hH (listed' := #[true, true, true, true, true, true, true, true, true, true, true, true, true, true, true, true, true, true, true, true, true, true, true, true, true, true, true, true, true, true, true, true, true, true, true, true, true, false, false, false, false, false, false]) (fuel := 6) (sy' := ⟨[(0, V (.string (bs s_))), (3, V (.slice a109 r108.length c110)), (4, I end_124), (5, I line_125), (6, I i_119), (7, I k_126), (8, Pt 9 0), (43, Pt 9 1), (44, I ((gi (gi r108 i_119) k_126).At)), (45, V (.string (bs s_))), (46, I ((s_.length : Nat) : Int)), (47, Pt 9 2), (48, V (.string (bs ((gi (gi r108 i_119) k_126).Text)))), (49, I ((((gi (gi r108 i_119) k_126).Text).length : Nat) : Int)), (50, I (IntKind.i64.wrap (((s_.length : Nat) : Int) - ((((gi (gi r108 i_119) k_126).Text).length : Nat) : Int)))), (51, B (decide (((gi (gi r108 i_119) k_126).At) > (IntKind.i64.wrap (((s_.length : Nat) : Int) - ((((gi (gi r108 i_119) k_126).Text).length : Nat) : Int)))))), (54, V (.string (bs s_))), (55, Pt 9 1), (56, I ((gi (gi r108 i_119) k_126).At)), (57, Pt 9 1), (58, I ((gi (gi r108 i_119) k_126).At)), (59, Pt 9 2), (60, V (.string (bs ((gi (gi r108 i_119) k_126).Text)))), (61, I ((((gi (gi r108 i_119) k_126).Text).length : Nat) : Int)), (62, I (IntKind.i64.wrap (((gi (gi r108 i_119) k_126).At) + ((((gi (gi r108 i_119) k_126).Text).length : Nat) : Int)))), (63, V (.string (bs ((s_.take (IntKind.i64.wrap (((gi (gi r108 i_119) k_126).At) + ((((gi (gi r108 i_119) k_126).Text).length : Nat) : Int))).toNat).drop ((gi (gi r108 i_119) k_126).At).toNat)))), (64, Pt 9 2), (65, V (.string (bs ((gi (gi r108 i_119) k_126).Text)))), (66, B (!(((s_.take (IntKind.i64.wrap (((gi (gi r108 i_119) k_126).At) + ((((gi (gi r108 i_119) k_126).Text).length : Nat) : Int))).toNat).drop ((gi (gi r108 i_119) k_126).At).toNat) == ((gi (gi r108 i_119) k_126).Text)))), (69, Pt 9 2), (70, V (.string (bs ((gi (gi r108 i_119) k_126).Text)))), (71, B r170), (72, B (!r170)), (74, B (!r170))], [(9, (41, [I ((gi (gi r108 i_119) k_126).Line), I ((gi (gi r108 i_119) k_126).At), V (.string (bs ((gi (gi r108 i_119) k_126).Text)))]))]⟩) (by as_aux_lemma => kernel_rfl) (by rfl) ?_
                        intro a hS
                        rcases Bool.eq_false_or_eq_true (!r170) with hb | hb
                        · replace hS := hS.lit (t := 74) (by kernel_rfl) hb
                          replace hm := hm.1 hb
                          refine take T [37, 39, 38, 40, 41, 42] [9] [0, 3, 4, 5, 6, 7, 8, 43, 44, 45, 46, 47, 48, 49, 50, 51, 54, 55, 56, 57, 58, 59, 60, 61, 62, 63, 64, 65, 66, 69, 70, 71, 72, 75, 76, 77, 78, 79, 80] hS (by kernel_rfl) (by kernel_rfl) (by kernel_rfl) hH (listed' := #[true, true, true, true, true, true, true, true, true, true, true, true, true, true, true, true, true, true, true, true, true, true, true, true, true, true, true, true, true, true, true, true, true, true, true, true, true, true, true, true, true, true, true]) (fuel := 0) (sy' := ⟨[(0, V (.string (bs s_))), (3, V (.slice a109 r108.length c110)), (4, I end_124), (5, I line_125), (6, I i_119), (7, I k_126), (8, Pt 9 0), (43, Pt 9 1), (44, I ((gi (gi r108 i_119) k_126).At)), (45, V (.string (bs s_))), (46, I ((s_.length : Nat) : Int)), (47, Pt 9 2), (48, V (.string (bs ((gi (gi r108 i_119) k_126).Text)))), (49, I ((((gi (gi r108 i_119) k_126).Text).length : Nat) : Int)), (50, I (IntKind.i64.wrap (((s_.length : Nat) : Int) - ((((gi (gi r108 i_119) k_126).Text).length : Nat) : Int)))), (51, B (decide (((gi (gi r108 i_119) k_126).At) > (IntKind.i64.wrap (((s_.length : Nat) : Int) - ((((gi (gi r108 i_119) k_126).Text).length : Nat) : Int)))))), (54, V (.string (bs s_))), (55, Pt 9 1), (56, I ((gi (gi r108 i_119) k_126).At)), (57, Pt 9 1), (58, I ((gi (gi r108 i_119) k_126).At)), (59, Pt 9 2), (60, V (.string (bs ((gi (gi r108 i_119) k_126).Text)))), (61, I ((((gi (gi r108 i_119) k_126).Text).length : Nat) : Int)), (62, I (IntKind.i64.wrap (((gi (gi r108 i_119) k_126).At) + ((((gi (gi r108 i_119) k_126).Text).length : Nat) : Int)))), (63, V (.string (bs ((s_.take (IntKind.i64.wrap (((gi (gi r108 i_119) k_126).At) + ((((gi (gi r108 i_119) k_126).Text).length : Nat) : Int))).toNat).drop ((gi (gi r108 i_119) k_126).At).toNat)))), (64, Pt 9 2), (65, V (.string (bs ((gi (gi r108 i_119) k_126).Text)))), (66, B (!(((s_.take (IntKind.i64.wrap (((gi (gi r108 i_119) k_126).At) + ((((gi (gi r108 i_119) k_126).Text).length : Nat) : Int))).toNat).drop ((gi (gi r108 i_119) k_126).At).toNat) == ((gi (gi r108 i_119) k_126).Text)))), (69, Pt 9 2), (70, V (.string (bs ((gi (gi r108 i_119) k_126).Text)))), (71, B r170), (72, B (!r170)), (75, V undef), (76, V undef), (77, V undef), (78, V undef), (79, V undef), (80, B true)], [(9, (41, [I ((gi (gi r108 i_119) k_126).Line), I ((gi (gi r108 i_119) k_126).At), V (.string (bs ((gi (gi r108 i_119) k_126).Text)))]))]⟩) (by as_aux_lemma => kernel_rfl) (by rfl) ?_
                          intro a hS
                          refine drawnDone (by kernel_rfl) ?_
                          clear hD hH
                          replace hS := hS.sel [0, 3, 4, 5, 6, 7, 8, 43, 44, 45, 46, 47, 48, 49, 50, 51, 54, 55, 56, 57, 58, 59, 60, 61, 62, 63, 64, 65, 66, 69, 70, 71, 72, 80] [9] (sy' := ⟨[(0, V (.string (bs s_))), (3, V (.slice a109 r108.length c110)), (4, I end_124), (5, I line_125), (6, I i_119), (7, I k_126), (8, Pt 9 0), (43, Pt 9 1), (44, I ((gi (gi r108 i_119) k_126).At)), (45, V (.string (bs s_))), (46, I ((s_.length : Nat) : Int)), (47, Pt 9 2), (48, V (.string (bs ((gi (gi r108 i_119) k_126).Text)))), (49, I ((((gi (gi r108 i_119) k_126).Text).length : Nat) : Int)), (50, I (IntKind.i64.wrap (((s_.length : Nat) : Int) - ((((gi (gi r108 i_119) k_126).Text).length : Nat) : Int)))), (51, B (decide (((gi (gi r108 i_119) k_126).At) > (IntKind.i64.wrap (((s_.length : Nat) : Int) - ((((gi (gi r108 i_119) k_126).Text).length : Nat) : Int)))))), (54, V (.string (bs s_))), (55, Pt 9 1), (56, I ((gi (gi r108 i_119) k_126).At)), (57, Pt 9 1), (58, I ((gi (gi r108 i_119) k_126).At)), (59, Pt 9 2), (60, V (.string (bs ((gi (gi r108 i_119) k_126).Text)))), (61, I ((((gi (gi r108 i_119) k_126).Text).length : Nat) : Int)), (62, I (IntKind.i64.wrap (((gi (gi r108 i_119) k_126).At) + ((((gi (gi r108 i_119) k_126).Text).length : Nat) : Int)))), (63, V (.string (bs ((s_.take (IntKind.i64.wrap (((gi (gi r108 i_119) k_126).At) + ((((gi (gi r108 i_119) k_126).Text).length : Nat) : Int))).toNat).drop ((gi (gi r108 i_119) k_126).At).toNat)))), (64, Pt 9 2), (65, V (.string (bs ((gi (gi r108 i_119) k_126).Text)))), (66, B (!(((s_.take (IntKind.i64.wrap (((gi (gi r108 i_119) k_126).At) + ((((gi (gi r108 i_119) k_126).Text).length : Nat) : Int))).toNat).drop ((gi (gi r108 i_119) k_126).At).toNat) == ((gi (gi r108 i_119) k_126).Text)))), (69, Pt 9 2), (70, V (.string (bs ((gi (gi r108 i_119) k_126).Text)))), (71, B r170), (72, B (!r170)), (80, B true)], [(9, (41, [I ((gi (gi r108 i_119) k_126).Line), I ((gi (gi r108 i_119) k_126).At), V (.string (bs ((gi (gi r108 i_119) k_126).Text)))]))]⟩) (by kernel_rfl)
                          exact ⟨ρ, _, true, hm, hS.sel [0, 3, 4, 5, 6, 7, 8, 80] [9] (by kernel_rfl), hO, h123, hAmb⟩
                        · replace hS := hS.lit (t := 74) (by kernel_rfl) hb
                          replace hm := hm.2 hb
                          refine take T [37, 39, 38, 40, 41, 42] [9] [0, 3, 4, 5, 6, 7, 8, 43, 44, 45, 46, 47, 48, 49, 50, 51, 54, 55, 56, 57, 58, 59, 60, 61, 62, 63, 64, 65, 66, 69, 70, 71, 72, 75, 76, 77, 78, 79, 80] hS (by kernel_rfl) (by kernel_rfl) (by kernel_rfl) hH (listed' := #[true, true, true, true, true, true, true, true, true, true, true, true, true, true, true, true, true, true, true, true, true, true, true, true, true, true, true, true, true, true, true, true, true, true, true, true, true, true, true, true, true, true, true]) (fuel := 0) (sy' := ⟨[(0, V (.string (bs s_))), (3, V (.slice a109 r108.length c110)), (4, I end_124), (5, I line_125), (6, I i_119), (7, I k_126), (8, Pt 9 0), (43, Pt 9 1), (44, I ((gi (gi r108 i_119) k_126).At)), (45, V (.string (bs s_))), (46, I ((s_.length : Nat) : Int)), (47, Pt 9 2), (48, V (.string (bs ((gi (gi r108 i_119) k_126).Text)))), (49, I ((((gi (gi r108 i_119) k_126).Text).length : Nat) : Int)), (50, I (IntKind.i64.wrap (((s_.length : Nat) : Int) - ((((gi (gi r108 i_119) k_126).Text).length : Nat) : Int)))), (51, B (decide (((gi (gi r108 i_119) k_126).At) > (IntKind.i64.wrap (((s_.length : Nat) : Int) - ((((gi (gi r108 i_119) k_126).Text).length : Nat) : Int)))))), (54, V (.string (bs s_))), (55, Pt 9 1), (56, I ((gi (gi r108 i_119) k_126).At)), (57, Pt 9 1), (58, I ((gi (gi r108 i_119) k_126).At)), (59, Pt 9 2), (60, V (.string (bs ((gi (gi r108 i_119) k_126).Text)))), (61, I ((((gi (gi r108 i_119) k_126).Text).length : Nat) : Int)), (62, I (IntKind.i64.wrap (((gi (gi r108 i_119) k_126).At) + ((((gi (gi r108 i_119) k_126).Text).length : Nat) : Int)))), (63, V (.string (bs ((s_.take (IntKind.i64.wrap (((gi (gi r108 i_119) k_126).At) + ((((gi (gi r108 i_119) k_126).Text).length : Nat) : Int))).toNat).drop ((gi (gi r108 i_119) k_126).At).toNat)))), (64, Pt 9 2), (65, V (.string (bs ((gi (gi r108 i_119) k_126).Text)))), (66, B (!(((s_.take (IntKind.i64.wrap (((gi (gi r108 i_119) k_126).At) + ((((gi (gi r108 i_119) k_126).Text).length : Nat) : Int))).toNat).drop ((gi (gi r108 i_119) k_126).At).toNat) == ((gi (gi r108 i_119) k_126).Text)))), (69, Pt 9 2), (70, V (.string (bs ((gi (gi r108 i_119) k_126).Text)))), (71, B r170), (72, B (!r170)), (75, Pt 9 0), (76, I ((gi (gi r108 i_119) k_126).Line)), (77, I i_119), (78, I (IntKind.i64.wrap (i_119 + 1))), (79, B (((gi (gi r108 i_119) k_126).Line) != (IntKind.i64.wrap (i_119 + 1)))), (80, B (((gi (gi r108 i_119) k_126).Line) != (IntKind.i64.wrap (i_119 + 1))))], [(9, (41, [I ((gi (gi r108 i_119) k_126).Line), I ((gi (gi r108 i_119) k_126).At), V (.string (bs ((gi (gi r108 i_119) k_126).Text)))]))]⟩) (by as_aux_lemma => kernel_rfl) (by rfl) ?_
                          intro a hS
                          refine drawnDone (by kernel_rfl) ?_
                          clear hD hH
                          replace hS := hS.sel [0, 3, 4, 5, 6, 7, 8, 43, 44, 45, 46, 47, 48, 49, 50, 51, 54, 55, 56, 57, 58, 59, 60, 61, 62, 63, 64, 65, 66, 69, 70, 71, 72, 75, 76, 77, 78, 79, 80] [9] (sy' := ⟨[(0, V (.string (bs s_))), (3, V (.slice a109 r108.length c110)), (4, I end_124), (5, I line_125), (6, I i_119), (7, I k_126), (8, Pt 9 0), (43, Pt 9 1), (44, I ((gi (gi r108 i_119) k_126).At)), (45, V (.string (bs s_))), (46, I ((s_.length : Nat) : Int)), (47, Pt 9 2), (48, V (.string (bs ((gi (gi r108 i_119) k_126).Text)))), (49, I ((((gi (gi r108 i_119) k_126).Text).length : Nat) : Int)), (50, I (IntKind.i64.wrap (((s_.length : Nat) : Int) - ((((gi (gi r108 i_119) k_126).Text).length : Nat) : Int)))), (51, B (decide (((gi (gi r108 i_119) k_126).At) > (IntKind.i64.wrap (((s_.length : Nat) : Int) - ((((gi (gi r108 i_119) k_126).Text).length : Nat) : Int)))))), (54, V (.string (bs s_))), (55, Pt 9 1), (56, I ((gi (gi r108 i_119) k_126).At)), (57, Pt 9 1), (58, I ((gi (gi r108 i_119) k_126).At)), (59, Pt 9 2), (60, V (.string (bs ((gi (gi r108 i_119) k_126).Text)))), (61, I ((((gi (gi r108 i_119) k_126).Text).length : Nat) : Int)), (62, I (IntKind.i64.wrap (((gi (gi r108 i_119) k_126).At) + ((((gi (gi r108 i_119) k_126).Text).length : Nat) : Int)))), (63, V (.string (bs ((s_.take (IntKind.i64.wrap (((gi (gi r108 i_119) k_126).At) + ((((gi (gi r108 i_119) k_126).Text).length : Nat) : Int))).toNat).drop ((gi (gi r108 i_119) k_126).At).toNat)))), (64, Pt 9 2), (65, V (.string (bs ((gi (gi r108 i_119) k_126).Text)))), (66, B (!(((s_.take (IntKind.i64.wrap (((gi (gi r108 i_119) k_126).At) + ((((gi (gi r108 i_119) k_126).Text).length : Nat) : Int))).toNat).drop ((gi (gi r108 i_119) k_126).At).toNat) == ((gi (gi r108 i_119) k_126).Text)))), (69, Pt 9 2), (70, V (.string (bs ((gi (gi r108 i_119) k_126).Text)))), (71, B r170), (72, B (!r170)), (75, Pt 9 0), (76, I ((gi (gi r108 i_119) k_126).Line)), (77, I i_119), (78, I (IntKind.i64.wrap (i_119 + 1))), (79, B (((gi (gi r108 i_119) k_126).Line) != (IntKind.i64.wrap (i_119 + 1)))), (80, B (((gi (gi r108 i_119) k_126).Line) != (IntKind.i64.wrap (i_119 + 1))))], [(9, (41, [I ((gi (gi r108 i_119) k_126).Line), I ((gi (gi r108 i_119) k_126).At), V (.string (bs ((gi (gi r108 i_119) k_126).Text)))]))]⟩) (by kernel_rfl)
                          exact ⟨ρ, _, (((gi (gi r108 i_119) k_126).Line) != (IntKind.i64.wrap (i_119 + 1))), hm, hS.sel [0, 3, 4, 5, 6, 7, 8, 80] [9] (by kernel_rfl), hO, h123, hAmb⟩
                · rintro a w172 ⟨ρ, χ171, x_143, hm, hS, hO, h142, hAmb⟩
                  unfold VC5_J3 at hm
                  refine wcond hS (b := x_143) (by kernel_rfl) (fun hb => ?_) (fun hb => ?_)
                  · replace hm := hm.1 hb
                    refine regP T hS (sp := []) (ks := [2]) (bs := []) (sy' := ⟨[(2, B false)], []⟩) (by kernel_rfl) ?_
                    intro a hS
                    refine wret ?_
                    exact fin T hS hO (fun c => c) rfl (r := [.bool false]) (by kernel_rfl) (fun χ' hM hC => ⟨false, hm, rfl⟩)
                  · replace hm := hm.2 hb
                    refine wskip ?_
                    refine wcut (fun a w => ∃ (ρ : Nat → Nat) (χ : Nat → Nat) (line_145 : Int), VC5_J4 s_ Q r108 i_119 I2 μ2 end_124 line_125 k_126 line_145 ∧ St Tryd.f5.ntmps ⟨[(0, V (.string (bs s_))), (3, V (.slice a109 r108.length c110)), (5, I line_145), (6, I i_119), (7, I k_126), (8, Pt 9 0)], [(9, (41, [I ((gi (gi r108 i_119) k_126).Line), I ((gi (gi r108 i_119) k_126).At), V (.string (bs ((gi (gi r108 i_119) k_126).Text)))]))]⟩ ρ a w χ ∧ Old w0 χ0 w χ ∧ RS (tSlice tToken_Token) w χ a109 r108 c110 ∧ Amb w χ) ?_ ?_
                    · refine regP T hS (sp := []) (ks := [0, 3, 5, 6, 7, 8, 9]) (bs := [9]) (sy' := ⟨[(0, V (.string (bs s_))), (3, V (.slice a109 r108.length c110)), (5, I line_125), (6, I i_119), (7, I k_126), (8, Pt 9 0), (9, I end_124)], [(9, (41, [I ((gi (gi r108 i_119) k_126).Line), I ((gi (gi r108 i_119) k_126).At), V (.string (bs ((gi (gi r108 i_119) k_126).Text)))]))]⟩) (by kernel_rfl) ?_
                      intro a hS
                      refine wblock ?_
                      obtain ⟨I3, μ3, hm0, hm⟩ := hm
                      refine wloop (σ := Int × Int) (fun s a w => ∃ (ρ : Nat → Nat) (χ : Nat → Nat), I3 s.1 s.2 ∧ St Tryd.f5.ntmps ⟨[(0, V (.string (bs s_))), (3, V (.slice a109 r108.length c110)), (5, I s.1), (6, I i_119), (7, I k_126), (8, Pt 9 0), (9, I s.2)], [(9, (41, [I ((gi (gi r108 i_119) k_126).Line), I ((gi (gi r108 i_119) k_126).At), V (.string (bs ((gi (gi r108 i_119) k_126).Text)))]))]⟩ ρ a w χ ∧ Old w0 χ0 w χ ∧ RS (tSlice tToken_Token) w χ a109 r108 c110 ∧ Amb w χ) (fun s => μ3 s.1 s.2) (⟨line_125, end_124⟩) ?_ ?_
                      · exact ⟨ρ, _, hm0, hS.sel [0, 3, 5, 6, 7, 8, 9] [9] (by kernel_rfl), hO, h142, hAmb⟩
                      · rintro ⟨line_155, j_156⟩ a w162 ⟨ρ, χ161, hI, hS, hO, h154, hAmb⟩
                        replace hm := hm line_155 j_156 hI
                        clear hI hm0
                        refine wseq ?_
                        refine regP T hS (sp := []) (ks := [0, 3, 5, 6, 7, 8, 9, 85]) (bs := [9]) (sy' := ⟨[(0, V (.string (bs s_))), (3, V (.slice a109 r108.length c110)), (5, I line_155), (6, I i_119), (7, I k_126), (8, Pt 9 0), (9, I j_156), (85, B (decide (j_156 < ((gi (gi r108 i_119) k_126).At))))], [(9, (41, [I ((gi (gi r108 i_119) k_126).Line), I ((gi (gi r108 i_119) k_126).At), V (.string (bs ((gi (gi r108 i_119) k_126).Text)))]))]⟩) (by kernel_rfl) ?_
                        intro a hS
                        refine wcond hS (b := decide (j_156 < ((gi (gi r108 i_119) k_126).At))) (by kernel_rfl) (fun hb => ?_) (fun hb => ?_)
                        · replace hm := hm.1 hb
                          refine wskip ?_
                          refine wcut (fun a w => ∃ (ρ : Nat → Nat) (χ : Nat → Nat) (line_158 : Int), VC5_J6 I3 μ3 line_155 j_156 line_158 ∧ St Tryd.f5.ntmps ⟨[(0, V (.string (bs s_))), (3, V (.slice a109 r108.length c110)), (5, I line_158), (6, I i_119), (7, I k_126), (8, Pt 9 0), (9, I j_156)], [(9, (41, [I ((gi (gi r108 i_119) k_126).Line), I ((gi (gi r108 i_119) k_126).At), V (.string (bs ((gi (gi r108 i_119) k_126).Text)))]))]⟩ ρ a w χ ∧ Old w0 χ0 w χ ∧ RS (tSlice tToken_Token) w χ a109 r108 c110 ∧ Amb w χ) ?_ ?_
                          · refine wblock ?_
                            refine regO ?_
                            refine opsP T hS 2 (sp := []) (ks := [0, 3, 5, 6, 7, 8, 9, 88, 89]) (bs := [9]) (sy' := ⟨[(0, V (.string (bs s_))), (3, V (.slice a109 r108.length c110)), (5, I line_155), (6, I i_119), (7, I k_126), (8, Pt 9 0), (9, I j_156), (88, V (.string (bs s_))), (89, I j_156)], [(9, (41, [I ((gi (gi r108 i_119) k_126).Line), I ((gi (gi r108 i_119) k_126).At), V (.string (bs ((gi (gi r108 i_119) k_126).Text)))]))]⟩) (by kernel_rfl) ?_
                            intro a hS
                            obtain ⟨hq, hm⟩ := hm
                            refine op1 (sindex (k := .i64) T hS (by kernel_rfl) (by kernel_rfl) (by kernel_rfl) (by kernel_rfl) (by kernel_rfl) hq.1 hq.2 ?_)
                            intro a hS
                            clear hq
                            refine endP T hS (sp := []) (ks := [0, 3, 5, 6, 7, 8, 9, 91]) (bs := [9]) (sy' := ⟨[(0, V (.string (bs s_))), (3, V (.slice a109 r108.length c110)), (5, I line_155), (6, I i_119), (7, I k_126), (8, Pt 9 0), (9, I j_156), (91, B (((gi s_ j_156).toNat : Int) == 10))], [(9, (41, [I ((gi (gi r108 i_119) k_126).Line), I ((gi (gi r108 i_119) k_126).At), V (.string (bs ((gi (gi r108 i_119) k_126).Text)))]))]⟩) (by kernel_rfl) ?_
                            intro a hS
                            refine wcond hS (b := (((gi s_ j_156).toNat : Int) == 10)) (by kernel_rfl) (fun hb => ?_) (fun hb => ?_)
                            · replace hm := hm.1 hb
                              refine region (endP T hS (sp := []) (ks := [0, 3, 5, 6, 7, 8, 9]) (bs := [9]) (sy' := ⟨[(0, V (.string (bs s_))), (3, V (.slice a109 r108.length c110)), (5, I (IntKind.i64.wrap (line_155 + 1))), (6, I i_119), (7, I k_126), (8, Pt 9 0), (9, I j_156)], [(9, (41, [I ((gi (gi r108 i_119) k_126).Line), I ((gi (gi r108 i_119) k_126).At), V (.string (bs ((gi (gi r108 i_119) k_126).Text)))]))]⟩) (by kernel_rfl) ?_)
                              intro a hS
                              exact ⟨ρ, _, IntKind.i64.wrap (line_155 + 1), hm, hS.sel [0, 3, 5, 6, 7, 8, 9] [9] (by kernel_rfl), hO, h154, hAmb⟩
                            · replace hm := hm.2 hb
                              refine wskip ?_
                              exact ⟨ρ, _, line_155, hm, hS.sel [0, 3, 5, 6, 7, 8, 9] [9] (by kernel_rfl), hO, h154, hAmb⟩
                          · rintro a w160 ⟨ρ, χ159, line_158, hm, hS, hO, h157, hAmb⟩
                            unfold VC5_J6 at hm
                            refine region (endP T hS (sp := []) (ks := [0, 3, 5, 6, 7, 8, 9]) (bs := [9]) (sy' := ⟨[(0, V (.string (bs s_))), (3, V (.slice a109 r108.length c110)), (5, I line_158), (6, I i_119), (7, I k_126), (8, Pt 9 0), (9, I (IntKind.i64.wrap (j_156 + 1)))], [(9, (41, [I ((gi (gi r108 i_119) k_126).Line), I ((gi (gi r108 i_119) k_126).At), V (.string (bs ((gi (gi r108 i_119) k_126).Text)))]))]⟩) (by kernel_rfl) ?_)
                            intro a hS
                            exact ⟨⟨line_158, IntKind.i64.wrap (j_156 + 1)⟩, ⟨ρ, _, hm.1, hS.sel [0, 3, 5, 6, 7, 8, 9] [9] (by kernel_rfl), hO, h157, hAmb⟩, hm.2⟩
                        · replace hm := hm.2 hb
                          refine wexit (by rfl) ?_
                          exact ⟨ρ, _, line_155, hm, hS.sel [0, 3, 5, 6, 7, 8] [9] (by kernel_rfl), hO, h154, hAmb⟩
                    · rintro a w164 ⟨ρ, χ163, line_145, hm, hS, hO, h144, hAmb⟩
                      unfold VC5_J4 at hm
                      refine wseq ?_
                      refine regP T hS (sp := []) (ks := [0, 3, 5, 6, 7, 8, 97]) (bs := [9]) (sy' := ⟨[(0, V (.string (bs s_))), (3, V (.slice a109 r108.length c110)), (5, I line_145), (6, I i_119), (7, I k_126), (8, Pt 9 0), (97, B (line_145 != ((gi (gi r108 i_119) k_126).Line)))], [(9, (41, [I ((gi (gi r108 i_119) k_126).Line), I ((gi (gi r108 i_119) k_126).At), V (.string (bs ((gi (gi r108 i_119) k_126).Text)))]))]⟩) (by kernel_rfl) ?_
                      intro a hS
                      refine wcond hS (b := (line_145 != ((gi (gi r108 i_119) k_126).Line))) (by kernel_rfl) (fun hb => ?_) (fun hb => ?_)
                      · replace hm := hm.1 hb
                        refine regP T hS (sp := []) (ks := [2]) (bs := []) (sy' := ⟨[(2, B false)], []⟩) (by kernel_rfl) ?_
                        intro a hS
                        refine wret ?_
                        exact fin T hS hO (fun c => c) rfl (r := [.bool false]) (by kernel_rfl) (fun χ' hM hC => ⟨false, hm, rfl⟩)
                      · replace hm := hm.2 hb
                        refine wskip ?_
                        refine regP T hS (sp := []) (ks := [0, 3, 4, 5, 6, 7]) (bs := []) (sy' := ⟨[(0, V (.string (bs s_))), (3, V (.slice a109 r108.length c110)), (4, I (IntKind.i64.wrap (((gi (gi r108 i_119) k_126).At) + ((((gi (gi r108 i_119) k_126).Text).length : Nat) : Int)))), (5, I line_145), (6, I i_119), (7, I k_126)], []⟩) (by kernel_rfl) ?_
                        intro a hS
                        refine wcut (fun a w => ∃ (ρ : Nat → Nat) (χ : Nat → Nat) (x_147 : Bool), VC5_J5 Q r108 i_119 I2 μ2 end_124 line_125 k_126 line_145 x_147 ∧ St Tryd.f5.ntmps ⟨[(0, V (.string (bs s_))), (3, V (.slice a109 r108.length c110)), (4, I (IntKind.i64.wrap (((gi (gi r108 i_119) k_126).At) + ((((gi (gi r108 i_119) k_126).Text).length : Nat) : Int)))), (5, I line_145), (6, I i_119), (7, I k_126), (115, B x_147)], []⟩ ρ a w χ ∧ Old w0 χ0 w χ ∧ RS (tSlice tToken_Token) w χ a109 r108 c110 ∧ Amb w χ) ?_ ?_
                        · refine region ?_
                          refine opsP T hS 5 (sp := []) (ks := [0, 3, 4, 5, 6, 7, 108]) (bs := []) (sy' := ⟨[(0, V (.string (bs s_))), (3, V (.slice a109 r108.length c110)), (4, I (IntKind.i64.wrap (((gi (gi r108 i_119) k_126).At) + ((((gi (gi r108 i_119) k_126).Text).length : Nat) : Int)))), (5, I line_145), (6, I i_119), (7, I k_126), (108, B (decide ((IntKind.i64.wrap (((gi (gi r108 i_119) k_126).At) + ((((gi (gi r108 i_119) k_126).Text).length : Nat) : Int))) < ((s_.length : Nat) : Int))))], []⟩) (by kernel_rfl) ?_
                          intro a hS
                          rcases Bool.eq_false_or_eq_true (decide ((IntKind.i64.wrap (((gi (gi r108 i_119) k_126).At) + ((((gi (gi r108 i_119) k_126).Text).length : Nat) : Int))) < ((s_.length : Nat) : Int))) with hb | hb
                          · replace hS := hS.lit (t := 108) (by kernel_rfl) hb
                            replace hm := hm.1 hb
                            refine opsP T hS 4 (sp := []) (ks := [0, 3, 4, 5, 6, 7, 108, 109, 110, 111, 112]) (bs := []) (sy' := ⟨[(0, V (.string (bs s_))), (3, V (.slice a109 r108.length c110)), (4, I (IntKind.i64.wrap (((gi (gi r108 i_119) k_126).At) + ((((gi (gi r108 i_119) k_126).Text).length : Nat) : Int)))), (5, I line_145), (6, I i_119), (7, I k_126), (108, B true), (109, V (.string (bs s_))), (110, I (IntKind.i64.wrap (((gi (gi r108 i_119) k_126).At) + ((((gi (gi r108 i_119) k_126).Text).length : Nat) : Int)))), (111, I (IntKind.i64.wrap (((gi (gi r108 i_119) k_126).At) + ((((gi (gi r108 i_119) k_126).Text).length : Nat) : Int)))), (112, I (IntKind.i64.wrap ((IntKind.i64.wrap (((gi (gi r108 i_119) k_126).At) + ((((gi (gi r108 i_119) k_126).Text).length : Nat) : Int))) + 1)))], []⟩) (by kernel_rfl) ?_
                            intro a hS
                            obtain ⟨hq, hm⟩ := hm
                            refine op1 (sslice2 (kl := .i64) (kh := .i64) (s := s_) T hS (by kernel_rfl) (by kernel_rfl) (by kernel_rfl) (by kernel_rfl) (by kernel_rfl) (by kernel_rfl) hq.1 hq.2.1 hq.2.2 ?_)
                            intro a hS
                            clear hq
                            obtain ⟨hq, hm⟩ := hm
                            refine op1 (call hS (by kernel_rfl) (by kernel_rfl) hb20 (by kernel_rfl) (fun _ _ => rfl) (k20 _ _ ((s_.take (IntKind.i64.wrap ((IntKind.i64.wrap (((gi (gi r108 i_119) k_126).At) + ((((gi (gi r108 i_119) k_126).Text).length : Nat) : Int))) + 1)).toNat).drop (IntKind.i64.wrap (((gi (gi r108 i_119) k_126).At) + ((((gi (gi r108 i_119) k_126).Text).length : Nat) : Int))).toNat) hq) ?_)
                            intro v148 a w149 χ150 hE hp hS
                            clear hq
                            replace hO := hO.mv hE rfl rfl
                            replace h144 := h144.mv hE rfl
                            replace hAmb := hAmb.mv hE rfl
                            clear hE
                            obtain ⟨r151, hr⟩ : ∃ r, token_Word ((s_.take (IntKind.i64.wrap ((IntKind.i64.wrap (((gi (gi r108 i_119) k_126).At) + ((((gi (gi r108 i_119) k_126).Text).length : Nat) : Int))) + 1)).toNat).drop (IntKind.i64.wrap (((gi (gi r108 i_119) k_126).At) + ((((gi (gi r108 i_119) k_126).Text).length : Nat) : Int))).toNat) = r := ⟨_, rfl⟩
                            replace hm := hm r151 hr
                            rw [hr] at hp
                            clear hr
                            subst hp
                            refine endP T hS (sp := []) (ks := [0, 3, 4, 5, 6, 7, 109, 110, 111, 112, 113, 114, 115]) (bs := []) (sy' := ⟨[(0, V (.string (bs s_))), (3, V (.slice a109 r108.length c110)), (4, I (IntKind.i64.wrap (((gi (gi r108 i_119) k_126).At) + ((((gi (gi r108 i_119) k_126).Text).length : Nat) : Int)))), (5, I line_145), (6, I i_119), (7, I k_126), (109, V (.string (bs s_))), (110, I (IntKind.i64.wrap (((gi (gi r108 i_119) k_126).At) + ((((gi (gi r108 i_119) k_126).Text).length : Nat) : Int)))), (111, I (IntKind.i64.wrap (((gi (gi r108 i_119) k_126).At) + ((((gi (gi r108 i_119) k_126).Text).length : Nat) : Int)))), (112, I (IntKind.i64.wrap ((IntKind.i64.wrap (((gi (gi r108 i_119) k_126).At) + ((((gi (gi r108 i_119) k_126).Text).length : Nat) : Int))) + 1))), (113, V (.string (bs ((s_.take (IntKind.i64.wrap ((IntKind.i64.wrap (((gi (gi r108 i_119) k_126).At) + ((((gi (gi r108 i_119) k_126).Text).length : Nat) : Int))) + 1)).toNat).drop (IntKind.i64.wrap (((gi (gi r108 i_119) k_126).At) + ((((gi (gi r108 i_119) k_126).Text).length : Nat) : Int))).toNat)))), (114, B r151), (115, B r151)], []⟩) (by kernel_rfl) ?_
                            intro a hS
                            exact ⟨ρ, _, r151, hm, hS.sel [0, 3, 4, 5, 6, 7, 115] [] (by kernel_rfl), hO, h144, hAmb⟩
                          · replace hS := hS.lit (t := 108) (by kernel_rfl) hb
                            replace hm := hm.2 hb
                            refine endP T hS (sp := []) (ks := [0, 3, 4, 5, 6, 7, 115]) (bs := []) (sy' := ⟨[(0, V (.string (bs s_))), (3, V (.slice a109 r108.length c110)), (4, I (IntKind.i64.wrap (((gi (gi r108 i_119) k_126).At) + ((((gi (gi r108 i_119) k_126).Text).length : Nat) : Int)))), (5, I line_145), (6, I i_119), (7, I k_126), (115, B false)], []⟩) (by kernel_rfl) ?_
                            intro a hS
                            exact ⟨ρ, _, false, hm, hS.sel [0, 3, 4, 5, 6, 7, 115] [] (by kernel_rfl), hO, h144, hAmb⟩
                        · rintro a w153 ⟨ρ, χ152, x_147, hm, hS, hO, h146, hAmb⟩
                          unfold VC5_J5 at hm
                          refine wcond hS (b := x_147) (by kernel_rfl) (fun hb => ?_) (fun hb => ?_)
                          · replace hm := hm.1 hb
                            refine regP T hS (sp := []) (ks := [2]) (bs := []) (sy' := ⟨[(2, B false)], []⟩) (by kernel_rfl) ?_
                            intro a hS
                            refine wret ?_
                            exact fin T hS hO (fun c => c) rfl (r := [.bool false]) (by kernel_rfl) (fun χ' hM hC => ⟨false, hm, rfl⟩)
                          · replace hm := hm.2 hb
                            refine wskip ?_
                            refine region (endP T hS (sp := []) (ks := [0, 3, 4, 5, 6, 7]) (bs := []) (sy' := ⟨[(0, V (.string (bs s_))), (3, V (.slice a109 r108.length c110)), (4, I (IntKind.i64.wrap (((gi (gi r108 i_119) k_126).At) + ((((gi (gi r108 i_119) k_126).Text).length : Nat) : Int)))), (5, I line_145), (6, I i_119), (7, I (IntKind.i64.wrap (k_126 + 1)))], []⟩) (by kernel_rfl) ?_)
                            intro a hS
                            exact ⟨⟨IntKind.i64.wrap (((gi (gi r108 i_119) k_126).At) + ((((gi (gi r108 i_119) k_126).Text).length : Nat) : Int)), line_145, IntKind.i64.wrap (k_126 + 1)⟩, ⟨ρ, _, hm.1, hS.sel [0, 3, 4, 5, 6, 7] [] (by kernel_rfl), hO, h146, hAmb⟩, hm.2⟩
              · replace hm := hm.2 hb
                refine wexit (by rfl) ?_
                exact ⟨ρ, _, end_124, line_125, hm, hS.sel [0, 3, 4, 5, 6] [] (by kernel_rfl), hO, h123, hAmb⟩
          · rintro a w178 ⟨ρ, χ177, end_121, line_122, hm, hS, hO, h120, hAmb⟩
            unfold VC5_J2 at hm
            refine region (endP T hS (sp := []) (ks := [0, 3, 4, 5, 6]) (bs := []) (sy' := ⟨[(0, V (.string (bs s_))), (3, V (.slice a109 r108.length c110)), (4, I end_121), (5, I line_122), (6, I (IntKind.i64.wrap (i_119 + 1)))], []⟩) (by kernel_rfl) ?_)
            intro a hS
            exact ⟨⟨end_121, line_122, IntKind.i64.wrap (i_119 + 1)⟩, ⟨ρ, _, hm.1, hS.sel [0, 3, 4, 5, 6] [] (by kernel_rfl), hO, h120, hAmb⟩, hm.2⟩
        · replace hm := hm.2 hb
          refine wexit (by rfl) ?_
          exact ⟨ρ, _, hm, hS.sel [] [] (by kernel_rfl), hO, hAmb⟩
    · rintro a w182 ⟨ρ, χ181, hm, hS, hO, hAmb⟩
      unfold VC5_J1 at hm
      refine regO ?_
      refine op1 (call hS (by kernel_rfl) (by kernel_rfl) hb15 (by kernel_rfl) (fun _ _ => rfl) (k15 _ _ hAmb) ?_)
      intro v112 a w113 χ114 hE hp hS
      replace hO := hO.mv hE rfl rfl
      replace hAmb := hAmb.mv hE rfl
      clear hE
      obtain ⟨r115, hr⟩ : ∃ r, law05_awake = r := ⟨_, rfl⟩
      replace hm := hm r115 hr
      rw [hr] at hp
      clear hr
      subst hp
      refine endP T hS (sp := []) (ks := [2]) (bs := []) (sy' := ⟨[(2, B r115)], []⟩) (by kernel_rfl) ?_
      intro a hS
      refine wret ?_
      exact fin T hS hO (fun c => c) rfl (r := [.bool r115]) (by kernel_rfl) (fun χ' hM hC => ⟨r115, hm, rfl⟩)
/-- replevin/replevinlaw05.TokenNumbers -/
theorem W6 (k15 : S15) (k24 : S24) (k26 : S26) (w0 : World) (χ0 : Nat → Nat) (n_ : Int) (b_ : Int × Int) (s_ : List UInt8) (Q : Bool → Prop) (hm : VC6 n_ b_ s_ Q) (hAmb : Amb w0 χ0) :
    Ret Tryd.prog 6 #[.int .i64 n_, .agg #[.int .i64 b_.1, .int .i64 b_.2], .string (bs s_)] xnone w0 χ0 (fun w χ' v => ∃ r, Q r ∧ v = .bool r) := by
  unfold VC6 at hm
  refine enter Tryd.func6 rfl (vals := [.int .i64 n_, .agg #[.int .i64 b_.1, .int .i64 b_.2], .string (bs s_)]) (by kernel_rfl) ?_
  intro ρ a hS hO hM
  replace hAmb := hAmb.m0 hM
  clear hM
  refine regM T hS (sp := []) (ks := [0, 2, 4]) (bs := [5]) (sy' := ⟨[(0, I n_), (2, V (.string (bs s_))), (4, Pt 5 0)], [(5, (42, [I b_.1, I b_.2]))]⟩) (by kernel_rfl) ?_
  intro ρ a w131 χ132 hS hE hr
  replace hO := hO.mv hE rfl rfl
  replace hAmb := hAmb.mv hE rfl
  clear hE hr
  refine drawnSX [5] mixed hS ?_
  intro w101 χ102 hS hE hD hH
  replace hO := hO.mv hE rfl rfl
  replace hAmb := hAmb.mv hE rfl
  clear hE
  refine take T [0, 2, 1, 3, 4, 5] [5] [0, 2, 7, 8] hS (by kernel_rfl) (by kernel_rfl) (by kernel_rfl) hH (listed' := #[true, true, true, true, true, true]) (fuel := 0) (sy' := ⟨[(0, I n_), (2, V (.string (bs s_))), (7, I b_.1), (8, I b_.2)], [(5, (42, [I b_.1, I b_.2]))]⟩) (by kernel_rfl) (by rfl) ?_
  intro a hS
  refine drawnDone (by kernel_rfl) ?_
  clear hD hH
  replace hS := hS.sel [0, 2, 7, 8] [] (sy' := ⟨[(0, I n_), (2, V (.string (bs s_))), (7, I b_.1), (8, I b_.2)], []⟩) (by kernel_rfl)
  refine wseq ?_
  refine regP T hS (sp := []) (ks := [0, 2, 7, 8, 20]) (bs := []) (sy' := ⟨[(0, I n_), (2, V (.string (bs s_))), (7, I b_.1), (8, I b_.2), (20, B (decide (((s_.length : Nat) : Int) > 1000)))], []⟩) (by kernel_rfl) ?_
  intro a hS
  refine wcond hS (b := decide (((s_.length : Nat) : Int) > 1000)) (by kernel_rfl) (fun hb => ?_) (fun hb => ?_)
  · replace hm := hm.1 hb
    refine regO ?_
    refine op1 (call hS (by kernel_rfl) (by kernel_rfl) hb15 (by kernel_rfl) (fun _ _ => rfl) (k15 _ _ hAmb) ?_)
    intro v103 a w104 χ105 hE hp hS
    replace hO := hO.mv hE rfl rfl
    replace hAmb := hAmb.mv hE rfl
    clear hE
    obtain ⟨r106, hr⟩ : ∃ r, law05_awake = r := ⟨_, rfl⟩
    replace hm := hm r106 hr
    rw [hr] at hp
    clear hr
    subst hp
    refine endP T hS (sp := []) (ks := [6]) (bs := []) (sy' := ⟨[(6, B r106)], []⟩) (by kernel_rfl) ?_
    intro a hS
    refine wret ?_
    exact fin T hS hO (fun c => c) rfl (r := [.bool r106]) (by kernel_rfl) (fun χ' hM hC => ⟨r106, hm, rfl⟩)
  · replace hm := hm.2 hb
    refine wskip ?_
    refine regO ?_
    refine opsP T hS 1 (sp := []) (ks := [0, 2, 7, 8, 23]) (bs := []) (sy' := ⟨[(0, I n_), (2, V (.string (bs s_))), (7, I b_.1), (8, I b_.2), (23, I n_)], []⟩) (by kernel_rfl) ?_
    intro a hS
    obtain ⟨hq, hm⟩ := hm
    refine op1 (call hS (by kernel_rfl) (by kernel_rfl) hb26 (by kernel_rfl) (fun _ _ => rfl) (k26 _ _ n_ hq hAmb) ?_)
    intro v107 a w108 χ109 hE hp hS
    clear hq
    replace hO := hO.mv hE rfl rfl
    replace hAmb := hAmb.mv hE rfl
    clear hE
    obtain ⟨r110, hr⟩ : ∃ r, token_Digits n_ = r := ⟨_, rfl⟩
    replace hm := hm r110 hr
    rw [hr] at hp
    clear hr
    subst hp
    refine opsP T hS 2 (sp := []) (ks := [0, 2, 7, 8, 24, 25, 26]) (bs := []) (sy' := ⟨[(0, I n_), (2, V (.string (bs s_))), (7, I b_.1), (8, I b_.2), (24, V (.string (bs r110))), (25, I b_.1), (26, I b_.2)], []⟩) (by kernel_rfl) ?_
    intro a hS
    obtain ⟨hq, hm⟩ := hm
    refine op1 (call hS (by kernel_rfl) (by kernel_rfl) hb24 (by kernel_rfl) (fun _ _ => rfl) (k24 _ _ r110 b_.1 b_.2 hq) ?_)
    intro v111 a w112 χ113 hE hp hS
    clear hq
    replace hO := hO.mv hE rfl rfl
    replace hAmb := hAmb.mv hE rfl
    clear hE
    obtain ⟨r114, hr⟩ : ∃ r, token_Number r110 b_.1 b_.2 = r := ⟨_, rfl⟩
    replace hm := hm r114 hr
    rw [hr] at hp
    clear hr
    subst hp
    refine endP T hS (sp := []) (ks := [0, 2, 7, 8, 9, 10]) (bs := []) (sy' := ⟨[(0, I n_), (2, V (.string (bs s_))), (7, I b_.1), (8, I b_.2), (9, I r114.1), (10, I r114.2)], []⟩) (by kernel_rfl) ?_
    intro a hS
    refine wseq ?_
    refine regP T hS (sp := [33]) (ks := [0, 2, 7, 8, 9, 10, 11]) (bs := []) (sy' := ⟨[(0, I n_), (2, V (.string (bs s_))), (7, I b_.1), (8, I b_.2), (9, I r114.1), (10, I r114.2), (11, B ((decide (n_ ≥ b_.1)) && (decide (n_ ≤ b_.2))))], []⟩) (by kernel_rfl) ?_
    intro a hS
    refine regP T hS (sp := [39, 43, 48, 51, 54]) (ks := [2, 7, 8, 59]) (bs := []) (sy' := ⟨[(2, V (.string (bs s_))), (7, I b_.1), (8, I b_.2), (59, B ((((decide (n_ ≥ b_.1)) && (decide (n_ ≤ b_.2))) && ((r114.1 != n_) || (r114.2 != 0))) || ((!((decide (n_ ≥ b_.1)) && (decide (n_ ≤ b_.2)))) && ((r114.1 != 0) || (r114.2 != 7)))))], []⟩) (by kernel_rfl) ?_
    intro a hS
    refine wcond hS (b := ((((decide (n_ ≥ b_.1)) && (decide (n_ ≤ b_.2))) && ((r114.1 != n_) || (r114.2 != 0))) || ((!((decide (n_ ≥ b_.1)) && (decide (n_ ≤ b_.2)))) && ((r114.1 != 0) || (r114.2 != 7))))) (by kernel_rfl) (fun hb => ?_) (fun hb => ?_)
    · replace hm := hm.1 hb
      refine regP T hS (sp := []) (ks := [6]) (bs := []) (sy' := ⟨[(6, B false)], []⟩) (by kernel_rfl) ?_
      intro a hS
      refine wret ?_
      exact fin T hS hO (fun c => c) rfl (r := [.bool false]) (by kernel_rfl) (fun χ' hM hC => ⟨false, hm, rfl⟩)
    · replace hm := hm.2 hb
      refine wskip ?_
      refine regO ?_
      refine opsP T hS 3 (sp := []) (ks := [2, 7, 8, 61, 62, 63]) (bs := []) (sy' := ⟨[(2, V (.string (bs s_))), (7, I b_.1), (8, I b_.2), (61, V (.string (bs s_))), (62, I b_.1), (63, I b_.2)], []⟩) (by kernel_rfl) ?_
      intro a hS
      obtain ⟨hq, hm⟩ := hm
      refine op1 (call hS (by kernel_rfl) (by kernel_rfl) hb24 (by kernel_rfl) (fun _ _ => rfl) (k24 _ _ s_ b_.1 b_.2 hq) ?_)
      intro v115 a w116 χ117 hE hp hS
      clear hq
      replace hO := hO.mv hE rfl rfl
      replace hAmb := hAmb.mv hE rfl
      clear hE
      obtain ⟨r118, hr⟩ : ∃ r, token_Number s_ b_.1 b_.2 = r := ⟨_, rfl⟩
      replace hm := hm r118 hr
      rw [hr] at hp
      clear hr
      subst hp
      refine endP T hS (sp := []) (ks := [2, 7, 8, 12, 13]) (bs := []) (sy' := ⟨[(2, V (.string (bs s_))), (7, I b_.1), (8, I b_.2), (12, I r118.1), (13, I r118.2)], []⟩) (by kernel_rfl) ?_
      intro a hS
      refine regO ?_
      refine opsP T hS 3 (sp := []) (ks := [2, 7, 8, 12, 69]) (bs := []) (sy' := ⟨[(2, V (.string (bs s_))), (7, I b_.1), (8, I b_.2), (12, I r118.1), (69, B (r118.2 != 0))], []⟩) (by kernel_rfl) ?_
      intro a hS
      rcases Bool.eq_false_or_eq_true (r118.2 != 0) with hb | hb
      · replace hS := hS.lit (t := 69) (by kernel_rfl) hb
        replace hm := hm.1 hb
        refine opsP T hS 16 (sp := []) (ks := [85]) (bs := []) (sy' := ⟨[(85, B true)], []⟩) (by kernel_rfl) ?_
        intro a hS
        refine op1 (call hS (by kernel_rfl) (by kernel_rfl) hb15 (by kernel_rfl) (fun _ _ => rfl) (k15 _ _ hAmb) ?_)
        intro v119 a w120 χ121 hE hp hS
        replace hO := hO.mv hE rfl rfl
        replace hAmb := hAmb.mv hE rfl
        clear hE
        obtain ⟨r122, hr⟩ : ∃ r, law05_awake = r := ⟨_, rfl⟩
        replace hm := hm r122 hr
        rw [hr] at hp
        clear hr
        subst hp
        refine endP T hS (sp := []) (ks := [6]) (bs := []) (sy' := ⟨[(6, B r122)], []⟩) (by kernel_rfl) ?_
        intro a hS
        refine wret ?_
        exact fin T hS hO (fun c => c) rfl (r := [.bool r122]) (by kernel_rfl) (fun χ' hM hC => ⟨r122, hm, rfl⟩)
      · replace hS := hS.lit (t := 69) (by kernel_rfl) hb
        replace hm := hm.2 hb
        refine opsP T hS 1 (sp := []) (ks := [2, 7, 8, 12, 69, 70]) (bs := []) (sy' := ⟨[(2, V (.string (bs s_))), (7, I b_.1), (8, I b_.2), (12, I r118.1), (69, B false), (70, I r118.1)], []⟩) (by kernel_rfl) ?_
        intro a hS
        obtain ⟨hq, hm⟩ := hm
        refine op1 (call hS (by kernel_rfl) (by kernel_rfl) hb26 (by kernel_rfl) (fun _ _ => rfl) (k26 _ _ r118.1 hq hAmb) ?_)
        intro v123 a w124 χ125 hE hp hS
        clear hq
        replace hO := hO.mv hE rfl rfl
        replace hAmb := hAmb.mv hE rfl
        clear hE
        obtain ⟨r126, hr⟩ : ∃ r, token_Digits r118.1 = r := ⟨_, rfl⟩
        replace hm := hm r126 hr
        rw [hr] at hp
        clear hr
        subst hp
        refine opsP T hS 14 (sp := [74, 79]) (ks := [85]) (bs := []) (sy' := ⟨[(85, B (((r126 == s_) && (decide (r118.1 ≥ b_.1))) && (decide (r118.1 ≤ b_.2))))], []⟩) (by kernel_rfl) ?_
        intro a hS
        rcases Bool.eq_false_or_eq_true (((r126 == s_) && (decide (r118.1 ≥ b_.1))) && (decide (r118.1 ≤ b_.2))) with hb | hb
        · replace hS := hS.lit (t := 85) (by kernel_rfl) hb
          replace hm := hm.1 hb
          refine op1 (call hS (by kernel_rfl) (by kernel_rfl) hb15 (by kernel_rfl) (fun _ _ => rfl) (k15 _ _ hAmb) ?_)
          intro v127 a w128 χ129 hE hp hS
          replace hO := hO.mv hE rfl rfl
          replace hAmb := hAmb.mv hE rfl
          clear hE
          obtain ⟨r130, hr⟩ : ∃ r, law05_awake = r := ⟨_, rfl⟩
          replace hm := hm r130 hr
          rw [hr] at hp
          clear hr
          subst hp
          refine endP T hS (sp := []) (ks := [6]) (bs := []) (sy' := ⟨[(6, B r130)], []⟩) (by kernel_rfl) ?_
          intro a hS
          refine wret ?_
          exact fin T hS hO (fun c => c) rfl (r := [.bool r130]) (by kernel_rfl) (fun χ' hM hC => ⟨r130, hm, rfl⟩)
        · replace hS := hS.lit (t := 85) (by kernel_rfl) hb
          replace hm := hm.2 hb
          refine endP T hS (sp := []) (ks := [6]) (bs := []) (sy' := ⟨[(6, B false)], []⟩) (by kernel_rfl) ?_
          intro a hS
          refine wret ?_
          exact fin T hS hO (fun c => c) rfl (r := [.bool false]) (by kernel_rfl) (fun χ' hM hC => ⟨false, hm, rfl⟩)
end Go.Proofs.YtohbpcjnilefbaaDoor
