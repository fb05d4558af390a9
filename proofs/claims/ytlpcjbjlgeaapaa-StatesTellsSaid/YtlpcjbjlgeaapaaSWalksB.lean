/- Walks: each function returns what its condition asks. Condition: the contracts of its callees, handed in. -/
import Derived.Test.YtlpcjbjlgeaapaaSWalks
set_option linter.all false
namespace Go.Proofs.Ytlpcjbjlgeaapaa
open Go Go.Sv
set_option maxHeartbeats 1000000
def S6 : Prop := ∀ (w : World) (χ : Nat → Nat) (P : Numbering_Size) (O : List Bool) (S : List Int) (a1 : Option Addr) (c1 : Nat) (a2 : Option Addr) (c2 : Nat), RS tBool w χ a1 O c1 → RS tI w χ a2 S c2 → Ret Try.prog 6 #[.agg #[.int .i64 P.Ops, .int .i64 P.States], .slice a1 O.length c1, .slice a2 S.length c2] xnone w χ (fun w χ' v => v = .bool (law34_StatesTells P O S))
theorem hb6 : hasBody Try.prog 6 = true := by kernel_rfl
/-- replevin/replevinlaw34.StatesTells -/
theorem W6 (k26 : S26) (k27 : S27) (k28 : S28) (k29 : S29) (k30 : S30) (k31 : S31) (k32 : S32) (k33 : S33) (k34 : S34) (k35 : S35) (w0 : World) (χ0 : Nat → Nat) (P : Numbering_Size) (O : List Bool) (S : List Int) (a1 : Option Addr) (c1 : Nat) (a2 : Option Addr) (c2 : Nat) (Q : Bool → Prop) (hm : VC6 P O S Q) (h1 : RS tBool w0 χ0 a1 O c1) (h2 : RS tI w0 χ0 a2 S c2) :
    Ret Try.prog 6 #[.agg #[.int .i64 P.Ops, .int .i64 P.States], .slice a1 O.length c1, .slice a2 S.length c2] xnone w0 χ0 (fun w χ' v => ∃ r, Q r ∧ v = .bool r) := by
  unfold VC6 at hm
  replace hm := hm (h1.sm (by kernel_rfl))
  replace hm := hm (h2.sm (by kernel_rfl))
  refine enter Try.func6 rfl (vals := [.agg #[.int .i64 P.Ops, .int .i64 P.States], .slice a1 O.length c1, .slice a2 S.length c2]) (by kernel_rfl) ?_
  intro ρ a hS hO hM
  replace h1 := h1.m0 hM
  replace h2 := h2.m0 hM
  clear hM
  refine regM T hS (sp := []) (ks := [1, 2, 3]) (bs := [4]) (sy' := ⟨[(1, V (.slice a1 O.length c1)), (2, V (.slice a2 S.length c2)), (3, Pt 4 0)], [(4, (23, [I P.Ops, I P.States]))]⟩) (by kernel_rfl) ?_
  intro ρ a w172 χ173 hS hE hr
  replace hO := hO.mv hE rfl rfl
  replace h1 := h1.mv hE rfl
  replace h2 := h2.mv hE rfl
  clear hE hr
  refine wseq ?_
  refine regP T hS (sp := [19, 24, 29]) (ks := [1, 2, 3, 33]) (bs := [4]) (sy' := ⟨[(1, V (.slice a1 O.length c1)), (2, V (.slice a2 S.length c2)), (3, Pt 4 0), (33, B ((((decide (P.Ops > 12)) && (decide (P.Ops ≤ 64))) || (decide (((O.length : Nat) : Int) > 1000))) || (decide (((S.length : Nat) : Int) > 100))))], [(4, (23, [I P.Ops, I P.States]))]⟩) (by kernel_rfl) ?_
  intro a hS
  refine wcond hS (b := ((((decide (P.Ops > 12)) && (decide (P.Ops ≤ 64))) || (decide (((O.length : Nat) : Int) > 1000))) || (decide (((S.length : Nat) : Int) > 100)))) (by kernel_rfl) (fun hb => ?_) (fun hb => ?_)
  · replace hm := hm.1 hb
    refine regO ?_
    refine op1 (call hS (by kernel_rfl) (by kernel_rfl) hb26 (by kernel_rfl) (fun _ _ => rfl) (k26 _ _) ?_)
    intro v101 a w102 χ103 hE hp hS
    replace hO := hO.mv hE rfl rfl
    replace h1 := h1.mv hE rfl
    replace h2 := h2.mv hE rfl
    clear hE
    obtain ⟨r104, hr⟩ : ∃ r, law34_awake = r := ⟨_, rfl⟩
    replace hm := hm r104 hr
    rw [hr] at hp
    clear hr
    subst hp
    refine endP T hS (sp := []) (ks := [6]) (bs := []) (sy' := ⟨[(6, B r104)], []⟩) (by kernel_rfl) ?_
    intro a hS
    refine wret ?_
    exact fin T hS hO (fun c => c) rfl (r := [.bool r104]) (by kernel_rfl) (fun χ' hM hC => ⟨r104, hm, rfl⟩)
  · replace hm := hm.2 hb
    refine wskip ?_
    refine regP T hS (sp := []) (ks := [1, 2, 3, 7]) (bs := [4]) (sy' := ⟨[(1, V (.slice a1 O.length c1)), (2, V (.slice a2 S.length c2)), (3, Pt 4 0), (7, I 0)], [(4, (23, [I P.Ops, I P.States]))]⟩) (by kernel_rfl) ?_
    intro a hS
    refine wcut (fun a w => ∃ (ρ : Nat → Nat) (χ : Nat → Nat) (A_107 : Int), VC6_J1 P O S Q A_107 ∧ St Try.f6.ntmps ⟨[(1, V (.slice a1 O.length c1)), (2, V (.slice a2 S.length c2)), (3, Pt 4 0), (7, I A_107)], [(4, (23, [I P.Ops, I P.States]))]⟩ ρ a w χ ∧ Old w0 χ0 w χ ∧ RS tBool w χ a1 O c1 ∧ RS tI w χ a2 S c2) ?_ ?_
    · refine regP T hS (sp := []) (ks := [1, 2, 3, 7, 37]) (bs := [4]) (sy' := ⟨[(1, V (.slice a1 O.length c1)), (2, V (.slice a2 S.length c2)), (3, Pt 4 0), (7, I 0), (37, B (decide (((S.length : Nat) : Int) > 0)))], [(4, (23, [I P.Ops, I P.States]))]⟩) (by kernel_rfl) ?_
      intro a hS
      refine wcond hS (b := decide (((S.length : Nat) : Int) > 0)) (by kernel_rfl) (fun hb => ?_) (fun hb => ?_)
      · replace hm := hm.1 hb
        refine region ?_
        refine opsP T hS 1 (sp := []) (ks := [1, 2, 3, 7, 38]) (bs := [4]) (sy' := ⟨[(1, V (.slice a1 O.length c1)), (2, V (.slice a2 S.length c2)), (3, Pt 4 0), (7, I 0), (38, V (.slice a2 S.length c2))], [(4, (23, [I P.Ops, I P.States]))]⟩) (by kernel_rfl) ?_
        intro a hS
        obtain ⟨hq, hm⟩ := hm
        refine op1 (index (e := 3) (k := .i64) T hS (by kernel_rfl) (by kernel_rfl) (by kernel_rfl) (by kernel_rfl) h2 (by kernel_rfl) (by kernel_rfl) hq.1 hq.2 ?_)
        intro A167 a h168 hS
        clear hq
        refine op1 (load1 T hS (by kernel_rfl) (by kernel_rfl) (by kernel_rfl) h168 rfl (by kernel_rfl) ?_)
        intro v169 a hv hS
        cases hv
        refine endP T hS (sp := []) (ks := [1, 2, 3, 7]) (bs := [4]) (sy' := ⟨[(1, V (.slice a1 O.length c1)), (2, V (.slice a2 S.length c2)), (3, Pt 4 0), (7, I (gi S 0))], [(4, (23, [I P.Ops, I P.States]))]⟩) (by kernel_rfl) ?_
        intro a hS
        exact ⟨ρ, _, gi S 0, hm, hS.sel [1, 2, 3, 7] [4] (by kernel_rfl), hO, h1, h2⟩
      · replace hm := hm.2 hb
        refine wskip ?_
        exact ⟨ρ, _, 0, hm, hS.sel [1, 2, 3, 7] [4] (by kernel_rfl), hO, h1, h2⟩
    · rintro a w171 ⟨ρ, χ170, A_107, hm, hS, hO, h105, h106⟩
      unfold VC6_J1 at hm
      refine regO ?_
      refine opsP T hS 2 (sp := []) (ks := [1, 2, 3, 7, 42, 43]) (bs := [4]) (sy' := ⟨[(1, V (.slice a1 O.length c1)), (2, V (.slice a2 S.length c2)), (3, Pt 4 0), (7, I A_107), (42, V (.agg #[.int .i64 P.Ops, .int .i64 P.States])), (43, V (.slice a1 O.length c1))], [(4, (23, [I P.Ops, I P.States]))]⟩) (by kernel_rfl) ?_
      intro a hS
      refine op1 (call hS (by kernel_rfl) (by kernel_rfl) hb27 (by kernel_rfl) (fun _ _ => rfl) (k27 _ _ P O a1 c1 h105) ?_)
      intro v108 a w109 χ110 hE hp hS
      replace hO := hO.mv hE rfl rfl
      replace h105 := h105.mv hE rfl
      replace h106 := h106.mv hE rfl
      clear hE
      obtain ⟨a112, c113, hp, h114⟩ := hp
      obtain ⟨r111, hr⟩ : ∃ r, states_Row P O = r := ⟨_, rfl⟩
      replace hm := hm r111 hr
      rw [hr] at hp h114
      clear hr
      subst hp
      replace hm := hm (h114.sm (by kernel_rfl))
      refine endP T hS (sp := []) (ks := [1, 2, 3, 7, 8, 9]) (bs := [4]) (sy' := ⟨[(1, V (.slice a1 O.length c1)), (2, V (.slice a2 S.length c2)), (3, Pt 4 0), (7, I A_107), (8, V (.slice a112 r111.1.length c113)), (9, B r111.2)], [(4, (23, [I P.Ops, I P.States]))]⟩) (by kernel_rfl) ?_
      intro a hS
      refine regO ?_
      refine opsP T hS 5 (sp := []) (ks := [2, 3, 7, 8, 9, 49, 51, 52]) (bs := [4]) (sy' := ⟨[(2, V (.slice a2 S.length c2)), (3, Pt 4 0), (7, I A_107), (8, V (.slice a112 r111.1.length c113)), (9, B r111.2), (49, I P.Ops), (51, I P.States), (52, V (.slice a1 O.length c1))], [(4, (23, [I P.Ops, I P.States]))]⟩) (by kernel_rfl) ?_
      intro a hS
      refine op1 (call hS (by kernel_rfl) (by kernel_rfl) hb28 (by kernel_rfl) (fun _ _ => rfl) (k28 _ _ P.Ops P.States O a1 c1 h105) ?_)
      intro v115 a w116 χ117 hE hp hS
      replace hO := hO.mv hE rfl rfl
      replace h105 := h105.mv hE rfl
      replace h106 := h106.mv hE rfl
      replace h114 := h114.mv hE rfl
      clear hE
      obtain ⟨a119, c120, hp, h121⟩ := hp
      obtain ⟨r118, hr⟩ : ∃ r, ref34_Row P.Ops P.States O = r := ⟨_, rfl⟩
      replace hm := hm r118 hr
      rw [hr] at hp h121
      clear hr
      subst hp
      replace hm := hm (h121.sm (by kernel_rfl))
      refine endP T hS (sp := []) (ks := [2, 3, 7, 8, 9, 10, 11]) (bs := [4]) (sy' := ⟨[(2, V (.slice a2 S.length c2)), (3, Pt 4 0), (7, I A_107), (8, V (.slice a112 r111.1.length c113)), (9, B r111.2), (10, V (.slice a119 r118.1.length c120)), (11, B r118.2)], [(4, (23, [I P.Ops, I P.States]))]⟩) (by kernel_rfl) ?_
      intro a hS
      refine regO ?_
      refine opsP T hS 2 (sp := []) (ks := [2, 3, 7, 8, 9, 10, 11, 57, 58]) (bs := [4]) (sy' := ⟨[(2, V (.slice a2 S.length c2)), (3, Pt 4 0), (7, I A_107), (8, V (.slice a112 r111.1.length c113)), (9, B r111.2), (10, V (.slice a119 r118.1.length c120)), (11, B r118.2), (57, V (.agg #[.int .i64 P.Ops, .int .i64 P.States])), (58, V (.slice a2 S.length c2))], [(4, (23, [I P.Ops, I P.States]))]⟩) (by kernel_rfl) ?_
      intro a hS
      refine op1 (call hS (by kernel_rfl) (by kernel_rfl) hb29 (by kernel_rfl) (fun _ _ => rfl) (k29 _ _ P S a2 c2 h106) ?_)
      intro v122 a w123 χ124 hE hp hS
      replace hO := hO.mv hE rfl rfl
      replace h106 := h106.mv hE rfl
      replace h114 := h114.mv hE rfl
      replace h121 := h121.mv hE rfl
      clear hE
      obtain ⟨a126, c127, hp, h128⟩ := hp
      obtain ⟨r125, hr⟩ : ∃ r, states_Truths P S = r := ⟨_, rfl⟩
      replace hm := hm r125 hr
      rw [hr] at hp h128
      clear hr
      subst hp
      replace hm := hm (h128.sm (by kernel_rfl))
      refine endP T hS (sp := []) (ks := [2, 3, 7, 8, 9, 10, 11, 12, 13]) (bs := [4]) (sy' := ⟨[(2, V (.slice a2 S.length c2)), (3, Pt 4 0), (7, I A_107), (8, V (.slice a112 r111.1.length c113)), (9, B r111.2), (10, V (.slice a119 r118.1.length c120)), (11, B r118.2), (12, V (.slice a126 r125.1.length c127)), (13, B r125.2)], [(4, (23, [I P.Ops, I P.States]))]⟩) (by kernel_rfl) ?_
      intro a hS
      refine regO ?_
      refine opsP T hS 5 (sp := []) (ks := [3, 7, 8, 9, 10, 11, 12, 13, 64, 66, 67]) (bs := [4]) (sy' := ⟨[(3, Pt 4 0), (7, I A_107), (8, V (.slice a112 r111.1.length c113)), (9, B r111.2), (10, V (.slice a119 r118.1.length c120)), (11, B r118.2), (12, V (.slice a126 r125.1.length c127)), (13, B r125.2), (64, I P.Ops), (66, I P.States), (67, V (.slice a2 S.length c2))], [(4, (23, [I P.Ops, I P.States]))]⟩) (by kernel_rfl) ?_
      intro a hS
      refine op1 (call hS (by kernel_rfl) (by kernel_rfl) hb30 (by kernel_rfl) (fun _ _ => rfl) (k30 _ _ P.Ops P.States S a2 c2 h106) ?_)
      intro v129 a w130 χ131 hE hp hS
      replace hO := hO.mv hE rfl rfl
      replace h106 := h106.mv hE rfl
      replace h114 := h114.mv hE rfl
      replace h121 := h121.mv hE rfl
      replace h128 := h128.mv hE rfl
      clear hE
      obtain ⟨a133, c134, hp, h135⟩ := hp
      obtain ⟨r132, hr⟩ : ∃ r, ref34_Truths P.Ops P.States S = r := ⟨_, rfl⟩
      replace hm := hm r132 hr
      rw [hr] at hp h135
      clear hr
      subst hp
      replace hm := hm (h135.sm (by kernel_rfl))
      refine endP T hS (sp := []) (ks := [3, 7, 8, 9, 10, 11, 12, 13, 14, 15]) (bs := [4]) (sy' := ⟨[(3, Pt 4 0), (7, I A_107), (8, V (.slice a112 r111.1.length c113)), (9, B r111.2), (10, V (.slice a119 r118.1.length c120)), (11, B r118.2), (12, V (.slice a126 r125.1.length c127)), (13, B r125.2), (14, V (.slice a133 r132.1.length c134)), (15, B r132.2)], [(4, (23, [I P.Ops, I P.States]))]⟩) (by kernel_rfl) ?_
      intro a hS
      refine drawnS [4] mixed hS ?_
      intro w136 hS hE hD hH
      replace hO := hO.mv hE rfl rfl
      replace h114 := h114.mv hE rfl
      replace h121 := h121.mv hE rfl
      replace h128 := h128.mv hE rfl
      replace h135 := h135.mv hE rfl
      clear hE
      refine take T [0, 1, 3, 5, 7, 4, 6] [4] [8, 9, 10, 11, 12, 13, 14, 15, 71, 72, 75, 77, 78] hS (by kernel_rfl) (by kernel_rfl) (by kernel_rfl) hH (listed' := #[true, true, false, true, true, true, true, true, false, false, false, false, false, false, false, false, false, false, false, false, false, false, false, false, false, false, false, false, false, false, false, false, false, false]) (fuel := 27) (sy' := ⟨[(8, V (.slice a112 r111.1.length c113)), (9, B r111.2), (10, V (.slice a119 r118.1.length c120)), (11, B r118.2), (12, V (.slice a126 r125.1.length c127)), (13, B r125.2), (14, V (.slice a133 r132.1.length c134)), (15, B r132.2), (71, V (.agg #[.int .i64 P.Ops, .int .i64 P.States])), (72, I A_107), (75, I P.Ops), (77, I P.States), (78, I A_107)], [(4, (23, [I P.Ops, I P.States]))]⟩) (by kernel_rfl) (by rfl) ?_
      intro a hS
      refine only 2 (by kernel_rfl) (by rfl) (call hS (by kernel_rfl) (by kernel_rfl) hb32 (by kernel_rfl) (fun _ _ => rfl) (k32 _ _ P A_107) ?_)
      intro v137 a w138 χ139 hE hp hS
      replace hO := hO.mv hE rfl rfl
      replace hD := hD.ev hE rfl
      replace h114 := h114.mv hE rfl
      replace h121 := h121.mv hE rfl
      replace h128 := h128.mv hE rfl
      replace h135 := h135.mv hE rfl
      clear hE
      obtain ⟨a141, c142, hp, h143⟩ := hp
      obtain ⟨r140, hr⟩ : ∃ r, states_Clauses P A_107 = r := ⟨_, rfl⟩
      replace hm := hm r140 hr
      rw [hr] at hp h143
      clear hr
      subst hp
      replace hm := hm (h143.sm (by kernel_rfl))
      refine andH (Hold.of hS (bks := [4]) (by kernel_rfl) hD) ?_
      intro hH
      refine only 8 (by kernel_rfl) (by rfl) (call hS (by kernel_rfl) (by kernel_rfl) hb33 (by kernel_rfl) (fun _ _ => rfl) (k33 _ _ P.Ops P.States A_107) ?_)
      intro v144 a w145 χ146 hE hp hS
      replace hO := hO.mv hE rfl rfl
      replace hD := hD.ev hE rfl
      replace h114 := h114.mv hE rfl
      replace h121 := h121.mv hE rfl
      replace h128 := h128.mv hE rfl
      replace h135 := h135.mv hE rfl
      replace h143 := h143.mv hE rfl
      clear hE
      obtain ⟨a148, c149, hp, h150⟩ := hp
      obtain ⟨r147, hr⟩ : ∃ r, ref34_Clauses P.Ops P.States A_107 = r := ⟨_, rfl⟩
      replace hm := hm r147 hr
      rw [hr] at hp h150
      clear hr
      subst hp
      replace hm := hm (h150.sm (by kernel_rfl))
      refine andH (Hold.of hS (bks := [4]) (by kernel_rfl) hD) ?_
      intro hH
      refine only 9 (by kernel_rfl) (by rfl) (call hS (by kernel_rfl) (by kernel_rfl) hb31 (by kernel_rfl) (fun _ _ => rfl) (k31 _ _ r140 r147 a141 c142 a148 c149 h143 h150) ?_)
      intro v151 a w152 χ153 hE hp hS
      replace hO := hO.mv hE rfl rfl
      replace hD := hD.ev hE rfl
      replace h114 := h114.mv hE rfl
      replace h121 := h121.mv hE rfl
      replace h128 := h128.mv hE rfl
      replace h135 := h135.mv hE rfl
      replace h143 := h143.mv hE rfl
      replace h150 := h150.mv hE rfl
      clear hE
      obtain ⟨r154, hr⟩ : ∃ r, ref04_SameRows r140 r147 = r := ⟨_, rfl⟩
      replace hm := hm r154 hr
      rw [hr] at hp
      clear hr
      subst hp
      refine andH (Hold.of hS (bks := [4]) (by kernel_rfl) hD) ?_
      intro hH
      refine take T [10] [4] [8, 9, 10, 11, 12, 13, 14, 15, 81] hS (by kernel_rfl) (by kernel_rfl) (by kernel_rfl) hH (listed' := #[true, true, true, true, true, true, true, true, true, true, true, false, false, false, false, false, false, false, false, false, false, false, false, false, false, false, false, false, false, false, false, false, false, false]) (fuel := 23) (sy' := ⟨[(8, V (.slice a112 r111.1.length c113)), (9, B r111.2), (10, V (.slice a119 r118.1.length c120)), (11, B r118.2), (12, V (.slice a126 r125.1.length c127)), (13, B r125.2), (14, V (.slice a133 r132.1.length c134)), (15, B r132.2), (81, B r154)], [(4, (23, [I P.Ops, I P.States]))]⟩) (by kernel_rfl) (by rfl) ?_
      intro a hS
      rcases Bool.eq_false_or_eq_true r154 with hb | hb
      · replace hS := hS.lit (t := 81) (by kernel_rfl) hb
        replace hm := hm.1 hb
        refine take T [11, 12] [4] [9, 11, 12, 13, 14, 15, 81, 82, 83] hS (by kernel_rfl) (by kernel_rfl) (by kernel_rfl) hH (listed' := #[true, true, true, true, true, true, true, true, true, true, true, true, true, false, false, false, false, false, false, false, false, false, false, false, false, false, false, false, false, false, false, false, false, false]) (fuel := 21) (sy' := ⟨[(9, B r111.2), (11, B r118.2), (12, V (.slice a126 r125.1.length c127)), (13, B r125.2), (14, V (.slice a133 r132.1.length c134)), (15, B r132.2), (81, B true), (82, V (.slice a112 r111.1.length c113)), (83, V (.slice a119 r118.1.length c120))], [(4, (23, [I P.Ops, I P.States]))]⟩) (by kernel_rfl) (by rfl) ?_
        intro a hS
        refine only 13 (by kernel_rfl) (by rfl) (call hS (by kernel_rfl) (by kernel_rfl) hb34 (by kernel_rfl) (fun _ _ => rfl) (k34 _ _ r111.1 r118.1 a112 c113 a119 c120 h114 h121) ?_)
        intro v155 a w156 χ157 hE hp hS
        replace hO := hO.mv hE rfl rfl
        replace hD := hD.ev hE rfl
        replace h114 := h114.mv hE rfl
        replace h121 := h121.mv hE rfl
        replace h128 := h128.mv hE rfl
        replace h135 := h135.mv hE rfl
        replace h143 := h143.mv hE rfl
        replace h150 := h150.mv hE rfl
        clear hE
        obtain ⟨r158, hr⟩ : ∃ r, ref01_SameInts r111.1 r118.1 = r := ⟨_, rfl⟩
        replace hm := hm r158 hr
        rw [hr] at hp
        clear hr
        subst hp
        refine andH (Hold.of hS (bks := [4]) (by kernel_rfl) hD) ?_
        intro hH
        refine take T [14, 15] [4] [9, 11, 12, 13, 14, 15, 86] hS (by kernel_rfl) (by kernel_rfl) (by kernel_rfl) hH (listed' := #[true, true, true, true, true, true, true, true, true, true, true, true, true, true, true, true, false, false, false, false, false, false, false, false, false, false, false, false, false, false, false, false, false, false]) (fuel := 18) (sy' := ⟨[(9, B r111.2), (11, B r118.2), (12, V (.slice a126 r125.1.length c127)), (13, B r125.2), (14, V (.slice a133 r132.1.length c134)), (15, B r132.2), (86, B r158)], [(4, (23, [I P.Ops, I P.States]))]⟩) (by kernel_rfl) (by rfl) ?_
        intro a hS
        rcases Bool.eq_false_or_eq_true r158 with hb | hb
        · replace hS := hS.lit (t := 86) (by kernel_rfl) hb
          replace hm := hm.1 hb
          refine take T [16, 17, 18, 19, 20] [4] [12, 13, 14, 15, 91] hS (by kernel_rfl) (by kernel_rfl) (by kernel_rfl) hH (listed' := #[true, true, true, true, true, true, true, true, true, true, true, true, true, true, true, true, true, true, true, true, true, false, false, false, false, false, false, false, false, false, false, false, false, false]) (fuel := 13) (sy' := ⟨[(12, V (.slice a126 r125.1.length c127)), (13, B r125.2), (14, V (.slice a133 r132.1.length c134)), (15, B r132.2), (91, B (r111.2 == r118.2))], [(4, (23, [I P.Ops, I P.States]))]⟩) (by kernel_rfl) (by rfl) ?_
          intro a hS
          rcases Bool.eq_false_or_eq_true (r111.2 == r118.2) with hb | hb
          · replace hS := hS.lit (t := 91) (by kernel_rfl) hb
            replace hm := hm.1 hb
            refine take T [21, 22] [4] [13, 15, 91, 92, 93] hS (by kernel_rfl) (by kernel_rfl) (by kernel_rfl) hH (listed' := #[true, true, true, true, true, true, true, true, true, true, true, true, true, true, true, true, true, true, true, true, true, true, true, false, false, false, false, false, false, false, false, false, false, false]) (fuel := 11) (sy' := ⟨[(13, B r125.2), (15, B r132.2), (91, B true), (92, V (.slice a126 r125.1.length c127)), (93, V (.slice a133 r132.1.length c134))], [(4, (23, [I P.Ops, I P.States]))]⟩) (by kernel_rfl) (by rfl) ?_
            intro a hS
            refine only 23 (by kernel_rfl) (by rfl) (call hS (by kernel_rfl) (by kernel_rfl) hb35 (by kernel_rfl) (fun _ _ => rfl) (k35 _ _ r125.1 r132.1 a126 c127 a133 c134 h128 h135) ?_)
            intro v159 a w160 χ161 hE hp hS
            replace hO := hO.mv hE rfl rfl
            replace hD := hD.ev hE rfl
            replace h114 := h114.mv hE rfl
            replace h121 := h121.mv hE rfl
            replace h128 := h128.mv hE rfl
            replace h135 := h135.mv hE rfl
            replace h143 := h143.mv hE rfl
            replace h150 := h150.mv hE rfl
            clear hE
            obtain ⟨r162, hr⟩ : ∃ r, ref03_SameBools r125.1 r132.1 = r := ⟨_, rfl⟩
            replace hm := hm r162 hr
            rw [hr] at hp
            clear hr
            subst hp
            refine andH (Hold.of hS (bks := [4]) (by kernel_rfl) hD) ?_
            intro hH
            refine take T [24, 25] [4] [13, 15, 96] hS (by kernel_rfl) (by kernel_rfl) (by kernel_rfl) hH (listed' := #[true, true, true, true, true, true, true, true, true, true, true, true, true, true, true, true, true, true, true, true, true, true, true, true, true, true, false, false, false, false, false, false, false, false]) (fuel := 8) (sy' := ⟨[(13, B r125.2), (15, B r132.2), (96, B r162)], [(4, (23, [I P.Ops, I P.States]))]⟩) (by kernel_rfl) (by rfl) ?_
            intro a hS
            rcases Bool.eq_false_or_eq_true r162 with hb | hb
            · replace hS := hS.lit (t := 96) (by kernel_rfl) hb
              replace hm := hm.1 hb
              refine take T [26, 27, 28, 29, 30] [4] [101] hS (by kernel_rfl) (by kernel_rfl) (by kernel_rfl) hH (listed' := #[true, true, true, true, true, true, true, true, true, true, true, true, true, true, true, true, true, true, true, true, true, true, true, true, true, true, true, true, true, true, true, false, false, false]) (fuel := 3) (sy' := ⟨[(101, B (r125.2 == r132.2))], [(4, (23, [I P.Ops, I P.States]))]⟩) (by kernel_rfl) (by rfl) ?_
              intro a hS
              rcases Bool.eq_false_or_eq_true (r125.2 == r132.2) with hb | hb
              · replace hS := hS.lit (t := 101) (by kernel_rfl) hb
                replace hm := hm.1 hb
                refine only 31 (by kernel_rfl) (by rfl) (call hS (by kernel_rfl) (by kernel_rfl) hb26 (by kernel_rfl) (fun _ _ => rfl) (k26 _ _) ?_)
                intro v163 a w164 χ165 hE hp hS
                replace hO := hO.mv hE rfl rfl
                replace hD := hD.ev hE rfl
                replace h114 := h114.mv hE rfl
                replace h121 := h121.mv hE rfl
                replace h128 := h128.mv hE rfl
                replace h135 := h135.mv hE rfl
                replace h143 := h143.mv hE rfl
                replace h150 := h150.mv hE rfl
                clear hE
                obtain ⟨r166, hr⟩ : ∃ r, law34_awake = r := ⟨_, rfl⟩
                replace hm := hm r166 hr
                rw [hr] at hp
                clear hr
                subst hp
                refine andH (Hold.of hS (bks := [4]) (by kernel_rfl) hD) ?_
                intro hH
                refine take T [32, 33] [4] [6] hS (by kernel_rfl) (by kernel_rfl) (by kernel_rfl) hH (listed' := #[true, true, true, true, true, true, true, true, true, true, true, true, true, true, true, true, true, true, true, true, true, true, true, true, true, true, true, true, true, true, true, true, true, true]) (fuel := 0) (sy' := ⟨[(6, B r166)], [(4, (23, [I P.Ops, I P.States]))]⟩) (by kernel_rfl) (by rfl) ?_
                intro a hS
                refine drawnDone (by kernel_rfl) ?_
                clear hD hH
                replace hS := hS.sel [6] [] (sy' := ⟨[(6, B r166)], []⟩) (by kernel_rfl)
                refine wret ?_
                exact fin T hS hO (fun c => c) rfl (r := [.bool r166]) (by kernel_rfl) (fun χ' hM hC => ⟨r166, hm, rfl⟩)
              · replace hS := hS.lit (t := 101) (by kernel_rfl) hb
                replace hm := hm.2 hb
                refine take T [31, 32, 33] [4] [6] hS (by kernel_rfl) (by kernel_rfl) (by kernel_rfl) hH (listed' := #[true, true, true, true, true, true, true, true, true, true, true, true, true, true, true, true, true, true, true, true, true, true, true, true, true, true, true, true, true, true, true, true, true, true]) (fuel := 0) (sy' := ⟨[(6, B false)], [(4, (23, [I P.Ops, I P.States]))]⟩) (by kernel_rfl) (by rfl) ?_
                intro a hS
                refine drawnDone (by kernel_rfl) ?_
                clear hD hH
                replace hS := hS.sel [6] [] (sy' := ⟨[(6, B false)], []⟩) (by kernel_rfl)
                refine wret ?_
                exact fin T hS hO (fun c => c) rfl (r := [.bool false]) (by kernel_rfl) (fun χ' hM hC => ⟨false, hm, rfl⟩)
            · replace hS := hS.lit (t := 96) (by kernel_rfl) hb
              replace hm := hm.2 hb
              refine take T [26, 27, 28, 29, 30, 31, 32, 33] [4] [6] hS (by kernel_rfl) (by kernel_rfl) (by kernel_rfl) hH (listed' := #[true, true, true, true, true, true, true, true, true, true, true, true, true, true, true, true, true, true, true, true, true, true, true, true, true, true, true, true, true, true, true, true, true, true]) (fuel := 0) (sy' := ⟨[(6, B false)], [(4, (23, [I P.Ops, I P.States]))]⟩) (by kernel_rfl) (by rfl) ?_
              intro a hS
              refine drawnDone (by kernel_rfl) ?_
              clear hD hH
              replace hS := hS.sel [6] [] (sy' := ⟨[(6, B false)], []⟩) (by kernel_rfl)
              refine wret ?_
              exact fin T hS hO (fun c => c) rfl (r := [.bool false]) (by kernel_rfl) (fun χ' hM hC => ⟨false, hm, rfl⟩)
          · replace hS := hS.lit (t := 91) (by kernel_rfl) hb
            replace hm := hm.2 hb
            refine take T [21, 22, 23, 24, 25, 26, 27, 28, 29, 30, 31, 32, 33] [4] [6] hS (by kernel_rfl) (by kernel_rfl) (by kernel_rfl) hH (listed' := #[true, true, true, true, true, true, true, true, true, true, true, true, true, true, true, true, true, true, true, true, true, true, true, true, true, true, true, true, true, true, true, true, true, true]) (fuel := 0) (sy' := ⟨[(6, B false)], [(4, (23, [I P.Ops, I P.States]))]⟩) (by kernel_rfl) (by rfl) ?_
            intro a hS
            refine drawnDone (by kernel_rfl) ?_
            clear hD hH
            replace hS := hS.sel [6] [] (sy' := ⟨[(6, B false)], []⟩) (by kernel_rfl)
            refine wret ?_
            exact fin T hS hO (fun c => c) rfl (r := [.bool false]) (by kernel_rfl) (fun χ' hM hC => ⟨false, hm, rfl⟩)
        · replace hS := hS.lit (t := 86) (by kernel_rfl) hb
          replace hm := hm.2 hb
          refine take T [16, 17, 18, 19, 20, 21, 22, 23, 24, 25, 26, 27, 28, 29, 30, 31, 32, 33] [4] [6] hS (by kernel_rfl) (by kernel_rfl) (by kernel_rfl) hH (listed' := #[true, true, true, true, true, true, true, true, true, true, true, true, true, true, true, true, true, true, true, true, true, true, true, true, true, true, true, true, true, true, true, true, true, true]) (fuel := 0) (sy' := ⟨[(6, B false)], [(4, (23, [I P.Ops, I P.States]))]⟩) (by kernel_rfl) (by rfl) ?_
          intro a hS
          refine drawnDone (by kernel_rfl) ?_
          clear hD hH
          replace hS := hS.sel [6] [] (sy' := ⟨[(6, B false)], []⟩) (by kernel_rfl)
          refine wret ?_
          exact fin T hS hO (fun c => c) rfl (r := [.bool false]) (by kernel_rfl) (fun χ' hM hC => ⟨false, hm, rfl⟩)
      · replace hS := hS.lit (t := 81) (by kernel_rfl) hb
        replace hm := hm.2 hb
        refine take T [11, 12, 13, 14, 15, 16, 17, 18, 19, 20, 21, 22, 23, 24, 25, 26, 27, 28, 29, 30, 31, 32, 33] [4] [6] hS (by kernel_rfl) (by kernel_rfl) (by kernel_rfl) hH (listed' := #[true, true, true, true, true, true, true, true, true, true, true, true, true, true, true, true, true, true, true, true, true, true, true, true, true, true, true, true, true, true, true, true, true, true]) (fuel := 0) (sy' := ⟨[(6, B false)], [(4, (23, [I P.Ops, I P.States]))]⟩) (by kernel_rfl) (by rfl) ?_
        intro a hS
        refine drawnDone (by kernel_rfl) ?_
        clear hD hH
        replace hS := hS.sel [6] [] (sy' := ⟨[(6, B false)], []⟩) (by kernel_rfl)
        refine wret ?_
        exact fin T hS hO (fun c => c) rfl (r := [.bool false]) (by kernel_rfl) (fun χ' hM hC => ⟨false, hm, rfl⟩)
theorem C6 (k26 : S26) (k27 : S27) (k28 : S28) (k29 : S29) (k30 : S30) (k31 : S31) (k32 : S32) (k33 : S33) (k34 : S34) (k35 : S35) (v : ∀ (P : Numbering_Size) (O : List Bool) (S : List Int), VC6 P O S (fun r => r = law34_StatesTells P O S)) : S6 := by
  intro w χ P O S a1 c1 a2 c2   h1 h2
  refine (W6 k26 k27 k28 k29 k30 k31 k32 k33 k34 k35 w χ P O S a1 c1 a2 c2   _ (v P O S) h1 h2).mono ?_
  rintro _ _ _ _ ⟨r, rfl, h⟩
  exact h
def S7 : Prop := ∀ (w : World) (χ : Nat → Nat) (P : Numbering_Size) (O : Int) (S : List Bool) (a1 : Option Addr) (c1 : Nat), RS tBool w χ a1 S c1 → Ret Try.prog 7 #[.agg #[.int .i64 P.Ops, .int .i64 P.States], .int .i64 O, .slice a1 S.length c1] xnone w χ (fun w χ' v => v = .bool (law34_StatesOne P O S))
theorem hb7 : hasBody Try.prog 7 = true := by kernel_rfl
/-- replevin/replevinlaw34.StatesOne -/
theorem W7 (k21 : S21) (k23 : S23) (k26 : S26) (k27 : S27) (k32 : S32) (k36 : S36) (w0 : World) (χ0 : Nat → Nat) (P : Numbering_Size) (O : Int) (S : List Bool) (a1 : Option Addr) (c1 : Nat) (Q : Bool → Prop) (hm : VC7 P O S Q) (h1 : RS tBool w0 χ0 a1 S c1) :
    Ret Try.prog 7 #[.agg #[.int .i64 P.Ops, .int .i64 P.States], .int .i64 O, .slice a1 S.length c1] xnone w0 χ0 (fun w χ' v => ∃ r, Q r ∧ v = .bool r) := by
  unfold VC7 at hm
  replace hm := hm (h1.sm (by kernel_rfl))
  refine enter Try.func7 rfl (vals := [.agg #[.int .i64 P.Ops, .int .i64 P.States], .int .i64 O, .slice a1 S.length c1]) (by kernel_rfl) ?_
  intro ρ a hS hO hM
  replace h1 := h1.m0 hM
  clear hM
  refine regM T hS (sp := []) (ks := [1, 2, 3]) (bs := [4]) (sy' := ⟨[(1, I O), (2, V (.slice a1 S.length c1)), (3, Pt 4 0)], [(4, (23, [I P.Ops, I P.States]))]⟩) (by kernel_rfl) ?_
  intro ρ a w146 χ147 hS hE hr
  replace hO := hO.mv hE rfl rfl
  replace h1 := h1.mv hE rfl
  clear hE hr
  refine wseq ?_
  refine wcut (fun a w => ∃ (ρ : Nat → Nat) (χ : Nat → Nat) (x_102 : Bool), VC7_J1 P O S Q x_102 ∧ St Try.f7.ntmps ⟨[(1, I O), (2, V (.slice a1 S.length c1)), (3, Pt 4 0), (34, B x_102)], [(4, (23, [I P.Ops, I P.States]))]⟩ ρ a w χ ∧ Old w0 χ0 w χ ∧ RS tBool w χ a1 S c1) ?_ ?_
  · refine region ?_
    refine opsP T hS 4 (sp := []) (ks := [1, 2, 3, 13]) (bs := [4]) (sy' := ⟨[(1, I O), (2, V (.slice a1 S.length c1)), (3, Pt 4 0), (13, B (decide (P.Ops > 10)))], [(4, (23, [I P.Ops, I P.States]))]⟩) (by kernel_rfl) ?_
    intro a hS
    rcases Bool.eq_false_or_eq_true (decide (P.Ops > 10)) with hb | hb
    · replace hS := hS.lit (t := 13) (by kernel_rfl) hb
      replace hm := hm.1 hb
      refine endP T hS (sp := []) (ks := [1, 2, 3, 34]) (bs := [4]) (sy' := ⟨[(1, I O), (2, V (.slice a1 S.length c1)), (3, Pt 4 0), (34, B true)], [(4, (23, [I P.Ops, I P.States]))]⟩) (by kernel_rfl) ?_
      intro a hS
      exact ⟨ρ, _, true, hm, hS.sel [1, 2, 3, 34] [4] (by kernel_rfl), hO, h1⟩
    · replace hS := hS.lit (t := 13) (by kernel_rfl) hb
      replace hm := hm.2 hb
      refine opsP T hS 1 (sp := []) (ks := [1, 2, 3, 13, 14]) (bs := [4]) (sy' := ⟨[(1, I O), (2, V (.slice a1 S.length c1)), (3, Pt 4 0), (13, B false), (14, V (.agg #[.int .i64 P.Ops, .int .i64 P.States]))], [(4, (23, [I P.Ops, I P.States]))]⟩) (by kernel_rfl) ?_
      intro a hS
      refine op1 (call hS (by kernel_rfl) (by kernel_rfl) hb21 (by kernel_rfl) (fun _ _ => rfl) (k21 _ _ P) ?_)
      intro v136 a w137 χ138 hE hp hS
      replace hO := hO.mv hE rfl rfl
      replace h1 := h1.mv hE rfl
      clear hE
      obtain ⟨r139, hr⟩ : ∃ r, numbering_Check P = r := ⟨_, rfl⟩
      replace hm := hm r139 hr
      rw [hr] at hp
      clear hr
      subst hp
      refine opsP T hS 3 (sp := []) (ks := [1, 2, 3, 18]) (bs := [4]) (sy' := ⟨[(1, I O), (2, V (.slice a1 S.length c1)), (3, Pt 4 0), (18, B (r139 != 0))], [(4, (23, [I P.Ops, I P.States]))]⟩) (by kernel_rfl) ?_
      intro a hS
      rcases Bool.eq_false_or_eq_true (r139 != 0) with hb | hb
      · replace hS := hS.lit (t := 18) (by kernel_rfl) hb
        replace hm := hm.1 hb
        refine endP T hS (sp := []) (ks := [1, 2, 3, 34]) (bs := [4]) (sy' := ⟨[(1, I O), (2, V (.slice a1 S.length c1)), (3, Pt 4 0), (34, B true)], [(4, (23, [I P.Ops, I P.States]))]⟩) (by kernel_rfl) ?_
        intro a hS
        exact ⟨ρ, _, true, hm, hS.sel [1, 2, 3, 34] [4] (by kernel_rfl), hO, h1⟩
      · replace hS := hS.lit (t := 18) (by kernel_rfl) hb
        replace hm := hm.2 hb
        refine opsP T hS 3 (sp := []) (ks := [1, 2, 3, 18, 20, 21]) (bs := [4]) (sy' := ⟨[(1, I O), (2, V (.slice a1 S.length c1)), (3, Pt 4 0), (18, B false), (20, I ((S.length : Nat) : Int)), (21, V (.agg #[.int .i64 P.Ops, .int .i64 P.States]))], [(4, (23, [I P.Ops, I P.States]))]⟩) (by kernel_rfl) ?_
        intro a hS
        refine op1 (call hS (by kernel_rfl) (by kernel_rfl) hb23 (by kernel_rfl) (fun _ _ => rfl) (k23 _ _ P) ?_)
        intro v140 a w141 χ142 hE hp hS
        replace hO := hO.mv hE rfl rfl
        replace h1 := h1.mv hE rfl
        clear hE
        obtain ⟨r143, hr⟩ : ∃ r, numbering_Vars P = r := ⟨_, rfl⟩
        replace hm := hm r143 hr
        rw [hr] at hp
        clear hr
        subst hp
        refine endP T hS (sp := [25, 29]) (ks := [1, 2, 3, 34]) (bs := [4]) (sy' := ⟨[(1, I O), (2, V (.slice a1 S.length c1)), (3, Pt 4 0), (34, B (((((S.length : Nat) : Int) != r143) || (decide (O < 0))) || (decide (O ≥ P.States))))], [(4, (23, [I P.Ops, I P.States]))]⟩) (by kernel_rfl) ?_
        intro a hS
        exact ⟨ρ, _, (((((S.length : Nat) : Int) != r143) || (decide (O < 0))) || (decide (O ≥ P.States))), hm, hS.sel [1, 2, 3, 34] [4] (by kernel_rfl), hO, h1⟩
  · rintro a w145 ⟨ρ, χ144, x_102, hm, hS, hO, h101⟩
    unfold VC7_J1 at hm
    refine wcond hS (b := x_102) (by kernel_rfl) (fun hb => ?_) (fun hb => ?_)
    · replace hm := hm.1 hb
      refine regO ?_
      refine op1 (call hS (by kernel_rfl) (by kernel_rfl) hb26 (by kernel_rfl) (fun _ _ => rfl) (k26 _ _) ?_)
      intro v103 a w104 χ105 hE hp hS
      replace hO := hO.mv hE rfl rfl
      replace h101 := h101.mv hE rfl
      clear hE
      obtain ⟨r106, hr⟩ : ∃ r, law34_awake = r := ⟨_, rfl⟩
      replace hm := hm r106 hr
      rw [hr] at hp
      clear hr
      subst hp
      refine endP T hS (sp := []) (ks := [6]) (bs := []) (sy' := ⟨[(6, B r106)], []⟩) (by kernel_rfl) ?_
      intro a hS
      refine wret ?_
      exact fin T hS hO (fun c => c) rfl (r := [.bool r106]) (by kernel_rfl) (fun χ' hM hC => ⟨r106, hm, rfl⟩)
    · replace hm := hm.2 hb
      refine wskip ?_
      refine regO ?_
      refine opsP T hS 2 (sp := []) (ks := [1, 2, 3, 37, 38]) (bs := [4]) (sy' := ⟨[(1, I O), (2, V (.slice a1 S.length c1)), (3, Pt 4 0), (37, V (.agg #[.int .i64 P.Ops, .int .i64 P.States])), (38, V (.slice a1 S.length c1))], [(4, (23, [I P.Ops, I P.States]))]⟩) (by kernel_rfl) ?_
      intro a hS
      refine op1 (call hS (by kernel_rfl) (by kernel_rfl) hb27 (by kernel_rfl) (fun _ _ => rfl) (k27 _ _ P S a1 c1 h101) ?_)
      intro v107 a w108 χ109 hE hp hS
      replace hO := hO.mv hE rfl rfl
      replace h101 := h101.mv hE rfl
      clear hE
      obtain ⟨a111, c112, hp, h113⟩ := hp
      obtain ⟨r110, hr⟩ : ∃ r, states_Row P S = r := ⟨_, rfl⟩
      replace hm := hm r110 hr
      rw [hr] at hp h113
      clear hr
      subst hp
      replace hm := hm (h113.sm (by kernel_rfl))
      refine endP T hS (sp := []) (ks := [1, 2, 3, 7, 8]) (bs := [4]) (sy' := ⟨[(1, I O), (2, V (.slice a1 S.length c1)), (3, Pt 4 0), (7, V (.slice a111 r110.1.length c112)), (8, B r110.2)], [(4, (23, [I P.Ops, I P.States]))]⟩) (by kernel_rfl) ?_
      intro a hS
      refine wseq ?_
      refine regP T hS (sp := [43, 51, 54]) (ks := [1, 2, 3, 7, 8, 59]) (bs := [4]) (sy' := ⟨[(1, I O), (2, V (.slice a1 S.length c1)), (3, Pt 4 0), (7, V (.slice a111 r110.1.length c112)), (8, B r110.2), (59, B ((r110.2 && (((r110.1.length : Nat) : Int) != (IntKind.i64.wrap (P.Ops + 1)))) || ((!r110.2) && (((r110.1.length : Nat) : Int) != 0))))], [(4, (23, [I P.Ops, I P.States]))]⟩) (by kernel_rfl) ?_
      intro a hS
      refine wcond hS (b := ((r110.2 && (((r110.1.length : Nat) : Int) != (IntKind.i64.wrap (P.Ops + 1)))) || ((!r110.2) && (((r110.1.length : Nat) : Int) != 0)))) (by kernel_rfl) (fun hb => ?_) (fun hb => ?_)
      · replace hm := hm.1 hb
        refine regP T hS (sp := []) (ks := [6]) (bs := []) (sy' := ⟨[(6, B false)], []⟩) (by kernel_rfl) ?_
        intro a hS
        refine wret ?_
        exact fin T hS hO (fun c => c) rfl (r := [.bool false]) (by kernel_rfl) (fun χ' hM hC => ⟨false, hm, rfl⟩)
      · replace hm := hm.2 hb
        refine wskip ?_
        refine regO ?_
        refine opsP T hS 2 (sp := []) (ks := [1, 2, 7, 8, 60, 61]) (bs := []) (sy' := ⟨[(1, I O), (2, V (.slice a1 S.length c1)), (7, V (.slice a111 r110.1.length c112)), (8, B r110.2), (60, V (.agg #[.int .i64 P.Ops, .int .i64 P.States])), (61, I O)], []⟩) (by kernel_rfl) ?_
        intro a hS
        refine op1 (call hS (by kernel_rfl) (by kernel_rfl) hb32 (by kernel_rfl) (fun _ _ => rfl) (k32 _ _ P O) ?_)
        intro v114 a w115 χ116 hE hp hS
        replace hO := hO.mv hE rfl rfl
        replace h101 := h101.mv hE rfl
        replace h113 := h113.mv hE rfl
        clear hE
        obtain ⟨a118, c119, hp, h120⟩ := hp
        obtain ⟨r117, hr⟩ : ∃ r, states_Clauses P O = r := ⟨_, rfl⟩
        replace hm := hm r117 hr
        rw [hr] at hp h120
        clear hr
        subst hp
        replace hm := hm (h120.sm (by kernel_rfl))
        refine opsP T hS 2 (sp := []) (ks := [1, 7, 8, 63, 64]) (bs := []) (sy' := ⟨[(1, I O), (7, V (.slice a111 r110.1.length c112)), (8, B r110.2), (63, V (.agg #[.int .i64 0, .slice a118 r117.length c119])), (64, V (.slice a1 S.length c1))], []⟩) (by kernel_rfl) ?_
        intro a hS
        refine op1 (call hS (by kernel_rfl) (by kernel_rfl) hb36 (by kernel_rfl) (fun _ _ => rfl) (k36 _ _ (⟨0, r117⟩ : Api_Formula) S a118 c119 a1 c1 h120 h101) ?_)
        intro v121 a w122 χ123 hE hp hS
        replace hO := hO.mv hE rfl rfl
        replace h101 := h101.mv hE rfl
        replace h113 := h113.mv hE rfl
        replace h120 := h120.mv hE rfl
        clear hE
        obtain ⟨r124, hr⟩ : ∃ r, ref04_First (⟨0, r117⟩ : Api_Formula) S = r := ⟨_, rfl⟩
        replace hm := hm r124 hr
        rw [hr] at hp
        clear hr
        subst hp
        refine endP T hS (sp := []) (ks := [1, 7, 8, 9]) (bs := []) (sy' := ⟨[(1, I O), (7, V (.slice a111 r110.1.length c112)), (8, B r110.2), (9, B (decide (r124 < 0)))], []⟩) (by kernel_rfl) ?_
        intro a hS
        refine regO ?_
        refine opsP T hS 3 (sp := []) (ks := [1, 7, 67, 69]) (bs := []) (sy' := ⟨[(1, I O), (7, V (.slice a111 r110.1.length c112)), (67, B (decide (r124 < 0))), (69, B r110.2)], []⟩) (by kernel_rfl) ?_
        intro a hS
        rcases Bool.eq_false_or_eq_true r110.2 with hb | hb
        · replace hS := hS.lit (t := 69) (by kernel_rfl) hb
          replace hm := hm.1 hb
          refine opsP T hS 1 (sp := []) (ks := [1, 67, 69, 70]) (bs := []) (sy' := ⟨[(1, I O), (67, B (decide (r124 < 0))), (69, B true), (70, V (.slice a111 r110.1.length c112))], []⟩) (by kernel_rfl) ?_
          intro a hS
          obtain ⟨hq, hm⟩ := hm
          refine op1 (index (e := 3) (k := .i64) T hS (by kernel_rfl) (by kernel_rfl) (by kernel_rfl) (by kernel_rfl) h113 (by kernel_rfl) (by kernel_rfl) hq.1 hq.2 ?_)
          intro A125 a h126 hS
          clear hq
          refine op1 (load1 T hS (by kernel_rfl) (by kernel_rfl) (by kernel_rfl) h126 rfl (by kernel_rfl) ?_)
          intro v127 a hv hS
          cases hv
          refine opsP T hS 5 (sp := []) (ks := [77]) (bs := []) (sy' := ⟨[(77, B ((decide (r124 < 0)) == ((gi r110.1 0) == O)))], []⟩) (by kernel_rfl) ?_
          intro a hS
          rcases Bool.eq_false_or_eq_true ((decide (r124 < 0)) == ((gi r110.1 0) == O)) with hb | hb
          · replace hS := hS.lit (t := 77) (by kernel_rfl) hb
            replace hm := hm.1 hb
            refine op1 (call hS (by kernel_rfl) (by kernel_rfl) hb26 (by kernel_rfl) (fun _ _ => rfl) (k26 _ _) ?_)
            intro v128 a w129 χ130 hE hp hS
            replace hO := hO.mv hE rfl rfl
            clear hE
            obtain ⟨r131, hr⟩ : ∃ r, law34_awake = r := ⟨_, rfl⟩
            replace hm := hm r131 hr
            rw [hr] at hp
            clear hr
            subst hp
            refine endP T hS (sp := []) (ks := [6]) (bs := []) (sy' := ⟨[(6, B r131)], []⟩) (by kernel_rfl) ?_
            intro a hS
            refine wret ?_
            exact fin T hS hO (fun c => c) rfl (r := [.bool r131]) (by kernel_rfl) (fun χ' hM hC => ⟨r131, hm, rfl⟩)
          · replace hS := hS.lit (t := 77) (by kernel_rfl) hb
            replace hm := hm.2 hb
            refine endP T hS (sp := []) (ks := [6]) (bs := []) (sy' := ⟨[(6, B false)], []⟩) (by kernel_rfl) ?_
            intro a hS
            refine wret ?_
            exact fin T hS hO (fun c => c) rfl (r := [.bool false]) (by kernel_rfl) (fun χ' hM hC => ⟨false, hm, rfl⟩)
        · replace hS := hS.lit (t := 69) (by kernel_rfl) hb
          replace hm := hm.2 hb
          refine opsP T hS 8 (sp := []) (ks := [77]) (bs := []) (sy' := ⟨[(77, B ((decide (r124 < 0)) == false))], []⟩) (by kernel_rfl) ?_
          intro a hS
          rcases Bool.eq_false_or_eq_true ((decide (r124 < 0)) == false) with hb | hb
          · replace hS := hS.lit (t := 77) (by kernel_rfl) hb
            replace hm := hm.1 hb
            refine op1 (call hS (by kernel_rfl) (by kernel_rfl) hb26 (by kernel_rfl) (fun _ _ => rfl) (k26 _ _) ?_)
            intro v132 a w133 χ134 hE hp hS
            replace hO := hO.mv hE rfl rfl
            clear hE
            obtain ⟨r135, hr⟩ : ∃ r, law34_awake = r := ⟨_, rfl⟩
            replace hm := hm r135 hr
            rw [hr] at hp
            clear hr
            subst hp
            refine endP T hS (sp := []) (ks := [6]) (bs := []) (sy' := ⟨[(6, B r135)], []⟩) (by kernel_rfl) ?_
            intro a hS
            refine wret ?_
            exact fin T hS hO (fun c => c) rfl (r := [.bool r135]) (by kernel_rfl) (fun χ' hM hC => ⟨r135, hm, rfl⟩)
          · replace hS := hS.lit (t := 77) (by kernel_rfl) hb
            replace hm := hm.2 hb
            refine endP T hS (sp := []) (ks := [6]) (bs := []) (sy' := ⟨[(6, B false)], []⟩) (by kernel_rfl) ?_
            intro a hS
            refine wret ?_
            exact fin T hS hO (fun c => c) rfl (r := [.bool false]) (by kernel_rfl) (fun χ' hM hC => ⟨false, hm, rfl⟩)
theorem C7 (k21 : S21) (k23 : S23) (k26 : S26) (k27 : S27) (k32 : S32) (k36 : S36) (v : ∀ (P : Numbering_Size) (O : Int) (S : List Bool), VC7 P O S (fun r => r = law34_StatesOne P O S)) : S7 := by
  intro w χ P O S a1 c1   h1
  refine (W7 k21 k23 k26 k27 k32 k36 w χ P O S a1 c1   _ (v P O S) h1).mono ?_
  rintro _ _ _ _ ⟨r, rfl, h⟩
  exact h
def S8 : Prop := ∀ (w : World) (χ : Nat → Nat) (P : Numbering_Size) (O : List Int) (a1 : Option Addr) (c1 : Nat), RS tI w χ a1 O c1 → Ret Try.prog 8 #[.agg #[.int .i64 P.Ops, .int .i64 P.States], .slice a1 O.length c1] xnone w χ (fun w χ' v => v = .bool (law34_StatesCounts P O))
theorem hb8 : hasBody Try.prog 8 = true := by kernel_rfl
/-- replevin/replevinlaw34.StatesCounts -/
theorem W8 (k21 : S21) (k26 : S26) (k27 : S27) (k29 : S29) (k32 : S32) (k34 : S34) (k36 : S36) (w0 : World) (χ0 : Nat → Nat) (P : Numbering_Size) (O : List Int) (a1 : Option Addr) (c1 : Nat) (Q : Bool → Prop) (hm : VC8 P O Q) (h1 : RS tI w0 χ0 a1 O c1) :
    Ret Try.prog 8 #[.agg #[.int .i64 P.Ops, .int .i64 P.States], .slice a1 O.length c1] xnone w0 χ0 (fun w χ' v => ∃ r, Q r ∧ v = .bool r) := by
  unfold VC8 at hm
  replace hm := hm (h1.sm (by kernel_rfl))
  refine enter Try.func8 rfl (vals := [.agg #[.int .i64 P.Ops, .int .i64 P.States], .slice a1 O.length c1]) (by kernel_rfl) ?_
  intro ρ a hS hO hM
  replace h1 := h1.m0 hM
  clear hM
  refine regM T hS (sp := []) (ks := [1, 2]) (bs := [3]) (sy' := ⟨[(1, V (.slice a1 O.length c1)), (2, Pt 3 0)], [(3, (23, [I P.Ops, I P.States]))]⟩) (by kernel_rfl) ?_
  intro ρ a w154 χ155 hS hE hr
  replace hO := hO.mv hE rfl rfl
  replace h1 := h1.mv hE rfl
  clear hE hr
  refine wseq ?_
  refine wcut (fun a w => ∃ (ρ : Nat → Nat) (χ : Nat → Nat) (x_102 : Bool), VC8_J1 P O Q x_102 ∧ St Try.f8.ntmps ⟨[(1, V (.slice a1 O.length c1)), (2, Pt 3 0), (22, B x_102)], [(3, (23, [I P.Ops, I P.States]))]⟩ ρ a w χ ∧ Old w0 χ0 w χ ∧ RS tI w χ a1 O c1) ?_ ?_
  · refine region ?_
    refine opsP T hS 4 (sp := []) (ks := [1, 2, 13]) (bs := [3]) (sy' := ⟨[(1, V (.slice a1 O.length c1)), (2, Pt 3 0), (13, B (decide (P.Ops > 10)))], [(3, (23, [I P.Ops, I P.States]))]⟩) (by kernel_rfl) ?_
    intro a hS
    rcases Bool.eq_false_or_eq_true (decide (P.Ops > 10)) with hb | hb
    · replace hS := hS.lit (t := 13) (by kernel_rfl) hb
      replace hm := hm.1 hb
      refine endP T hS (sp := []) (ks := [1, 2, 22]) (bs := [3]) (sy' := ⟨[(1, V (.slice a1 O.length c1)), (2, Pt 3 0), (22, B true)], [(3, (23, [I P.Ops, I P.States]))]⟩) (by kernel_rfl) ?_
      intro a hS
      exact ⟨ρ, _, true, hm, hS.sel [1, 2, 22] [3] (by kernel_rfl), hO, h1⟩
    · replace hS := hS.lit (t := 13) (by kernel_rfl) hb
      replace hm := hm.2 hb
      refine opsP T hS 1 (sp := []) (ks := [1, 2, 13, 14]) (bs := [3]) (sy' := ⟨[(1, V (.slice a1 O.length c1)), (2, Pt 3 0), (13, B false), (14, V (.agg #[.int .i64 P.Ops, .int .i64 P.States]))], [(3, (23, [I P.Ops, I P.States]))]⟩) (by kernel_rfl) ?_
      intro a hS
      refine op1 (call hS (by kernel_rfl) (by kernel_rfl) hb21 (by kernel_rfl) (fun _ _ => rfl) (k21 _ _ P) ?_)
      intro v148 a w149 χ150 hE hp hS
      replace hO := hO.mv hE rfl rfl
      replace h1 := h1.mv hE rfl
      clear hE
      obtain ⟨r151, hr⟩ : ∃ r, numbering_Check P = r := ⟨_, rfl⟩
      replace hm := hm r151 hr
      rw [hr] at hp
      clear hr
      subst hp
      refine endP T hS (sp := [18]) (ks := [1, 2, 22]) (bs := [3]) (sy' := ⟨[(1, V (.slice a1 O.length c1)), (2, Pt 3 0), (22, B ((r151 != 0) || (decide (((O.length : Nat) : Int) > 100))))], [(3, (23, [I P.Ops, I P.States]))]⟩) (by kernel_rfl) ?_
      intro a hS
      exact ⟨ρ, _, ((r151 != 0) || (decide (((O.length : Nat) : Int) > 100))), hm, hS.sel [1, 2, 22] [3] (by kernel_rfl), hO, h1⟩
  · rintro a w153 ⟨ρ, χ152, x_102, hm, hS, hO, h101⟩
    unfold VC8_J1 at hm
    refine wcond hS (b := x_102) (by kernel_rfl) (fun hb => ?_) (fun hb => ?_)
    · replace hm := hm.1 hb
      refine regO ?_
      refine op1 (call hS (by kernel_rfl) (by kernel_rfl) hb26 (by kernel_rfl) (fun _ _ => rfl) (k26 _ _) ?_)
      intro v103 a w104 χ105 hE hp hS
      replace hO := hO.mv hE rfl rfl
      replace h101 := h101.mv hE rfl
      clear hE
      obtain ⟨r106, hr⟩ : ∃ r, law34_awake = r := ⟨_, rfl⟩
      replace hm := hm r106 hr
      rw [hr] at hp
      clear hr
      subst hp
      refine endP T hS (sp := []) (ks := [4]) (bs := []) (sy' := ⟨[(4, B r106)], []⟩) (by kernel_rfl) ?_
      intro a hS
      refine wret ?_
      exact fin T hS hO (fun c => c) rfl (r := [.bool r106]) (by kernel_rfl) (fun χ' hM hC => ⟨r106, hm, rfl⟩)
    · replace hm := hm.2 hb
      refine wskip ?_
      refine regO ?_
      refine opsP T hS 2 (sp := []) (ks := [1, 2, 25, 26]) (bs := [3]) (sy' := ⟨[(1, V (.slice a1 O.length c1)), (2, Pt 3 0), (25, V (.agg #[.int .i64 P.Ops, .int .i64 P.States])), (26, V (.slice a1 O.length c1))], [(3, (23, [I P.Ops, I P.States]))]⟩) (by kernel_rfl) ?_
      intro a hS
      refine op1 (call hS (by kernel_rfl) (by kernel_rfl) hb29 (by kernel_rfl) (fun _ _ => rfl) (k29 _ _ P O a1 c1 h101) ?_)
      intro v107 a w108 χ109 hE hp hS
      replace hO := hO.mv hE rfl rfl
      replace h101 := h101.mv hE rfl
      clear hE
      obtain ⟨a111, c112, hp, h113⟩ := hp
      obtain ⟨r110, hr⟩ : ∃ r, states_Truths P O = r := ⟨_, rfl⟩
      replace hm := hm r110 hr
      rw [hr] at hp h113
      clear hr
      subst hp
      replace hm := hm (h113.sm (by kernel_rfl))
      refine endP T hS (sp := []) (ks := [1, 2, 5, 6]) (bs := [3]) (sy' := ⟨[(1, V (.slice a1 O.length c1)), (2, Pt 3 0), (5, V (.slice a111 r110.1.length c112)), (6, B r110.2)], [(3, (23, [I P.Ops, I P.States]))]⟩) (by kernel_rfl) ?_
      intro a hS
      refine wseq ?_
      refine regP T hS (sp := []) (ks := [1, 2, 5, 31]) (bs := [3]) (sy' := ⟨[(1, V (.slice a1 O.length c1)), (2, Pt 3 0), (5, V (.slice a111 r110.1.length c112)), (31, B (!r110.2))], [(3, (23, [I P.Ops, I P.States]))]⟩) (by kernel_rfl) ?_
      intro a hS
      refine wcond hS (b := (!r110.2)) (by kernel_rfl) (fun hb => ?_) (fun hb => ?_)
      · replace hm := hm.1 hb
        refine regO ?_
        refine opsP T hS 4 (sp := []) (ks := [35]) (bs := []) (sy' := ⟨[(35, B (((r110.1.length : Nat) : Int) == 0))], []⟩) (by kernel_rfl) ?_
        intro a hS
        rcases Bool.eq_false_or_eq_true (((r110.1.length : Nat) : Int) == 0) with hb | hb
        · replace hS := hS.lit (t := 35) (by kernel_rfl) hb
          replace hm := hm.1 hb
          refine op1 (call hS (by kernel_rfl) (by kernel_rfl) hb26 (by kernel_rfl) (fun _ _ => rfl) (k26 _ _) ?_)
          intro v114 a w115 χ116 hE hp hS
          replace hO := hO.mv hE rfl rfl
          clear hE
          obtain ⟨r117, hr⟩ : ∃ r, law34_awake = r := ⟨_, rfl⟩
          replace hm := hm r117 hr
          rw [hr] at hp
          clear hr
          subst hp
          refine endP T hS (sp := []) (ks := [4]) (bs := []) (sy' := ⟨[(4, B r117)], []⟩) (by kernel_rfl) ?_
          intro a hS
          refine wret ?_
          exact fin T hS hO (fun c => c) rfl (r := [.bool r117]) (by kernel_rfl) (fun χ' hM hC => ⟨r117, hm, rfl⟩)
        · replace hS := hS.lit (t := 35) (by kernel_rfl) hb
          replace hm := hm.2 hb
          refine endP T hS (sp := []) (ks := [4]) (bs := []) (sy' := ⟨[(4, B false)], []⟩) (by kernel_rfl) ?_
          intro a hS
          refine wret ?_
          exact fin T hS hO (fun c => c) rfl (r := [.bool false]) (by kernel_rfl) (fun χ' hM hC => ⟨false, hm, rfl⟩)
      · replace hm := hm.2 hb
        refine wskip ?_
        refine regO ?_
        refine opsP T hS 2 (sp := []) (ks := [1, 2, 5, 39, 40]) (bs := [3]) (sy' := ⟨[(1, V (.slice a1 O.length c1)), (2, Pt 3 0), (5, V (.slice a111 r110.1.length c112)), (39, V (.agg #[.int .i64 P.Ops, .int .i64 P.States])), (40, V (.slice a111 r110.1.length c112))], [(3, (23, [I P.Ops, I P.States]))]⟩) (by kernel_rfl) ?_
        intro a hS
        refine op1 (call hS (by kernel_rfl) (by kernel_rfl) hb27 (by kernel_rfl) (fun _ _ => rfl) (k27 _ _ P r110.1 a111 c112 h113) ?_)
        intro v118 a w119 χ120 hE hp hS
        replace hO := hO.mv hE rfl rfl
        replace h101 := h101.mv hE rfl
        replace h113 := h113.mv hE rfl
        clear hE
        obtain ⟨a122, c123, hp, h124⟩ := hp
        obtain ⟨r121, hr⟩ : ∃ r, states_Row P r110.1 = r := ⟨_, rfl⟩
        replace hm := hm r121 hr
        rw [hr] at hp h124
        clear hr
        subst hp
        replace hm := hm (h124.sm (by kernel_rfl))
        refine endP T hS (sp := []) (ks := [1, 2, 5, 7, 8]) (bs := [3]) (sy' := ⟨[(1, V (.slice a1 O.length c1)), (2, Pt 3 0), (5, V (.slice a111 r110.1.length c112)), (7, V (.slice a122 r121.1.length c123)), (8, B r121.2)], [(3, (23, [I P.Ops, I P.States]))]⟩) (by kernel_rfl) ?_
        intro a hS
        refine drawnS [3] mixed hS ?_
        intro w125 hS hE hD hH
        replace hO := hO.mv hE rfl rfl
        replace h101 := h101.mv hE rfl
        replace h113 := h113.mv hE rfl
        replace h124 := h124.mv hE rfl
        clear hE
        refine take T [0, 1] [3] [1, 2, 5, 7, 8, 44, 45] hS (by kernel_rfl) (by kernel_rfl) (by kernel_rfl) hH (listed' := #[true, true, false, false, false, false]) (fuel := 4) (sy' := ⟨[(1, V (.slice a1 O.length c1)), (2, Pt 3 0), (5, V (.slice a111 r110.1.length c112)), (7, V (.slice a122 r121.1.length c123)), (8, B r121.2), (44, V (.agg #[.int .i64 P.Ops, .int .i64 P.States])), (45, V (.slice a1 O.length c1))], [(3, (23, [I P.Ops, I P.States]))]⟩) (by kernel_rfl) (by rfl) ?_
        intro a hS
        obtain ⟨hq, hm⟩ := hm
        refine dindex (e := 3) (k := .i64) T 2 hS (by kernel_rfl) (by kernel_rfl) (by kernel_rfl) (by rfl) (by kernel_rfl) hH (by kernel_rfl) (by kernel_rfl) h101 (by kernel_rfl) (by kernel_rfl) hq.1 hq.2 ?_
        intro A126 a h127 hS
        clear hq
        have h127b := h127.here
        refine dload1 T 3 hS (by kernel_rfl) (by kernel_rfl) (by kernel_rfl) (by rfl) (by kernel_rfl) hH (by kernel_rfl) h127 h127b rfl (by kernel_rfl) ?_
        intro v128 a hv hS
        cases hv
        refine only 4 (by kernel_rfl) (by rfl) (call hS (by kernel_rfl) (by kernel_rfl) hb32 (by kernel_rfl) (fun _ _ => rfl) (k32 _ _ P (gi O 0)) ?_)
        intro v129 a w130 χ131 hE hp hS
        replace hO := hO.mv hE rfl rfl
        replace hD := hD.ev hE rfl
        replace h101 := h101.mv hE rfl
        replace h113 := h113.mv hE rfl
        replace h124 := h124.mv hE rfl
        replace h127 := h127.mv hE rfl
        clear hE
        obtain ⟨a133, c134, hp, h135⟩ := hp
        obtain ⟨r132, hr⟩ : ∃ r, states_Clauses P (gi O 0) = r := ⟨_, rfl⟩
        replace hm := hm r132 hr
        rw [hr] at hp h135
        clear hr
        subst hp
        replace hm := hm (h135.sm (by kernel_rfl))
        refine andH (Hold.of hS (bks := [3]) (by kernel_rfl) hD) ?_
        intro hH
        refine take T [5] [3] [1, 2, 5, 7, 8, 9] hS (by kernel_rfl) (by kernel_rfl) (by kernel_rfl) hH (listed' := #[true, true, true, true, true, true]) (fuel := 0) (sy' := ⟨[(1, V (.slice a1 O.length c1)), (2, Pt 3 0), (5, V (.slice a111 r110.1.length c112)), (7, V (.slice a122 r121.1.length c123)), (8, B r121.2), (9, V (.slice a133 r132.length c134))], [(3, (23, [I P.Ops, I P.States]))]⟩) (by kernel_rfl) (by rfl) ?_
        intro a hS
        refine drawnDone (by kernel_rfl) ?_
        clear hD hH
        replace hS := hS.sel [1, 2, 5, 7, 8, 9] [3] (sy' := ⟨[(1, V (.slice a1 O.length c1)), (2, Pt 3 0), (5, V (.slice a111 r110.1.length c112)), (7, V (.slice a122 r121.1.length c123)), (8, B r121.2), (9, V (.slice a133 r132.length c134))], [(3, (23, [I P.Ops, I P.States]))]⟩) (by kernel_rfl)
        refine regO ?_
        refine opsP T hS 2 (sp := []) (ks := [1, 2, 5, 7, 9, 50]) (bs := [3]) (sy' := ⟨[(1, V (.slice a1 O.length c1)), (2, Pt 3 0), (5, V (.slice a111 r110.1.length c112)), (7, V (.slice a122 r121.1.length c123)), (9, V (.slice a133 r132.length c134)), (50, B r121.2)], [(3, (23, [I P.Ops, I P.States]))]⟩) (by kernel_rfl) ?_
        intro a hS
        rcases Bool.eq_false_or_eq_true r121.2 with hb | hb
        · replace hS := hS.lit (t := 50) (by kernel_rfl) hb
          replace hm := hm.1 hb
          refine opsP T hS 2 (sp := []) (ks := [2, 5, 9, 50, 51, 52]) (bs := [3]) (sy' := ⟨[(2, Pt 3 0), (5, V (.slice a111 r110.1.length c112)), (9, V (.slice a133 r132.length c134)), (50, B true), (51, V (.slice a122 r121.1.length c123)), (52, V (.slice a1 O.length c1))], [(3, (23, [I P.Ops, I P.States]))]⟩) (by kernel_rfl) ?_
          intro a hS
          refine op1 (call hS (by kernel_rfl) (by kernel_rfl) hb34 (by kernel_rfl) (fun _ _ => rfl) (k34 _ _ r121.1 O a122 c123 a1 c1 h124 h101) ?_)
          intro v136 a w137 χ138 hE hp hS
          replace hO := hO.mv hE rfl rfl
          replace h101 := h101.mv hE rfl
          replace h113 := h113.mv hE rfl
          replace h124 := h124.mv hE rfl
          replace h135 := h135.mv hE rfl
          clear hE
          obtain ⟨r139, hr⟩ : ∃ r, ref01_SameInts r121.1 O = r := ⟨_, rfl⟩
          replace hm := hm r139 hr
          rw [hr] at hp
          clear hr
          subst hp
          refine opsP T hS 2 (sp := []) (ks := [2, 5, 9, 55]) (bs := [3]) (sy' := ⟨[(2, Pt 3 0), (5, V (.slice a111 r110.1.length c112)), (9, V (.slice a133 r132.length c134)), (55, B r139)], [(3, (23, [I P.Ops, I P.States]))]⟩) (by kernel_rfl) ?_
          intro a hS
          rcases Bool.eq_false_or_eq_true r139 with hb | hb
          · replace hS := hS.lit (t := 55) (by kernel_rfl) hb
            replace hm := hm.1 hb
            refine opsP T hS 11 (sp := []) (ks := [5, 9, 55, 57, 60, 66]) (bs := []) (sy' := ⟨[(5, V (.slice a111 r110.1.length c112)), (9, V (.slice a133 r132.length c134)), (55, B true), (57, I ((r132.length : Nat) : Int)), (60, I (IntKind.i64.wrap (P.Ops + 1))), (66, I (IntKind.i64.wrap (P.States * (IntKind.i64.wrap (P.States - 1)))))], []⟩) (by kernel_rfl) ?_
            intro a hS
            refine op1 (quo (k := .i64) (p := IntKind.i64.wrap (P.States * (IntKind.i64.wrap (P.States - 1)))) (q := 2) hS (by kernel_rfl) (by kernel_rfl) (by kernel_rfl) (by kernel_rfl) (by decide) ?_)
            intro a hS
            refine opsP T hS 6 (sp := []) (ks := [5, 9, 73]) (bs := []) (sy' := ⟨[(5, V (.slice a111 r110.1.length c112)), (9, V (.slice a133 r132.length c134)), (73, B (((r132.length : Nat) : Int) == (IntKind.i64.wrap (1 + (IntKind.i64.wrap ((IntKind.i64.wrap (P.Ops + 1)) * (IntKind.i64.wrap (1 + (IntKind.i64.wrap (((IntKind.i64.wrap (P.States * (IntKind.i64.wrap (P.States - 1))))).tdiv 2))))))))))], []⟩) (by kernel_rfl) ?_
            intro a hS
            rcases Bool.eq_false_or_eq_true (((r132.length : Nat) : Int) == (IntKind.i64.wrap (1 + (IntKind.i64.wrap ((IntKind.i64.wrap (P.Ops + 1)) * (IntKind.i64.wrap (1 + (IntKind.i64.wrap (((IntKind.i64.wrap (P.States * (IntKind.i64.wrap (P.States - 1))))).tdiv 2))))))))) with hb | hb
            · replace hS := hS.lit (t := 73) (by kernel_rfl) hb
              replace hm := hm.1 hb
              refine opsP T hS 3 (sp := []) (ks := [73, 75, 76]) (bs := []) (sy' := ⟨[(73, B true), (75, V (.agg #[.int .i64 0, .slice a133 r132.length c134])), (76, V (.slice a111 r110.1.length c112))], []⟩) (by kernel_rfl) ?_
              intro a hS
              refine op1 (call hS (by kernel_rfl) (by kernel_rfl) hb36 (by kernel_rfl) (fun _ _ => rfl) (k36 _ _ (⟨0, r132⟩ : Api_Formula) r110.1 a133 c134 a111 c112 h135 h113) ?_)
              intro v140 a w141 χ142 hE hp hS
              replace hO := hO.mv hE rfl rfl
              replace h113 := h113.mv hE rfl
              replace h135 := h135.mv hE rfl
              clear hE
              obtain ⟨r143, hr⟩ : ∃ r, ref04_First (⟨0, r132⟩ : Api_Formula) r110.1 = r := ⟨_, rfl⟩
              replace hm := hm r143 hr
              rw [hr] at hp
              clear hr
              subst hp
              refine opsP T hS 3 (sp := []) (ks := [80]) (bs := []) (sy' := ⟨[(80, B (decide (r143 < 0)))], []⟩) (by kernel_rfl) ?_
              intro a hS
              rcases Bool.eq_false_or_eq_true (decide (r143 < 0)) with hb | hb
              · replace hS := hS.lit (t := 80) (by kernel_rfl) hb
                replace hm := hm.1 hb
                refine op1 (call hS (by kernel_rfl) (by kernel_rfl) hb26 (by kernel_rfl) (fun _ _ => rfl) (k26 _ _) ?_)
                intro v144 a w145 χ146 hE hp hS
                replace hO := hO.mv hE rfl rfl
                clear hE
                obtain ⟨r147, hr⟩ : ∃ r, law34_awake = r := ⟨_, rfl⟩
                replace hm := hm r147 hr
                rw [hr] at hp
                clear hr
                subst hp
                refine endP T hS (sp := []) (ks := [4]) (bs := []) (sy' := ⟨[(4, B r147)], []⟩) (by kernel_rfl) ?_
                intro a hS
                refine wret ?_
                exact fin T hS hO (fun c => c) rfl (r := [.bool r147]) (by kernel_rfl) (fun χ' hM hC => ⟨r147, hm, rfl⟩)
              · replace hS := hS.lit (t := 80) (by kernel_rfl) hb
                replace hm := hm.2 hb
                refine endP T hS (sp := []) (ks := [4]) (bs := []) (sy' := ⟨[(4, B false)], []⟩) (by kernel_rfl) ?_
                intro a hS
                refine wret ?_
                exact fin T hS hO (fun c => c) rfl (r := [.bool false]) (by kernel_rfl) (fun χ' hM hC => ⟨false, hm, rfl⟩)
            · replace hS := hS.lit (t := 73) (by kernel_rfl) hb
              replace hm := hm.2 hb
              refine endP T hS (sp := []) (ks := [4]) (bs := []) (sy' := ⟨[(4, B false)], []⟩) (by kernel_rfl) ?_
              intro a hS
              refine wret ?_
              exact fin T hS hO (fun c => c) rfl (r := [.bool false]) (by kernel_rfl) (fun χ' hM hC => ⟨false, hm, rfl⟩)
          · replace hS := hS.lit (t := 55) (by kernel_rfl) hb
            replace hm := hm.2 hb
            refine endP T hS (sp := []) (ks := [4]) (bs := []) (sy' := ⟨[(4, B false)], []⟩) (by kernel_rfl) ?_
            intro a hS
            refine wret ?_
            exact fin T hS hO (fun c => c) rfl (r := [.bool false]) (by kernel_rfl) (fun χ' hM hC => ⟨false, hm, rfl⟩)
        · replace hS := hS.lit (t := 50) (by kernel_rfl) hb
          replace hm := hm.2 hb
          refine endP T hS (sp := []) (ks := [4]) (bs := []) (sy' := ⟨[(4, B false)], []⟩) (by kernel_rfl) ?_
          intro a hS
          refine wret ?_
          exact fin T hS hO (fun c => c) rfl (r := [.bool false]) (by kernel_rfl) (fun χ' hM hC => ⟨false, hm, rfl⟩)
theorem C8 (k21 : S21) (k26 : S26) (k27 : S27) (k29 : S29) (k32 : S32) (k34 : S34) (k36 : S36) (v : ∀ (P : Numbering_Size) (O : List Int), VC8 P O (fun r => r = law34_StatesCounts P O)) : S8 := by
  intro w χ P O a1 c1   h1
  refine (W8 k21 k26 k27 k29 k32 k34 k36 w χ P O a1 c1   _ (v P O) h1).mono ?_
  rintro _ _ _ _ ⟨r, rfl, h⟩
  exact h
end Go.Proofs.Ytlpcjbjlgeaapaa
