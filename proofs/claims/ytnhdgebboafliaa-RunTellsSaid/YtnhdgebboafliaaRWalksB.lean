/- Walks: each function returns what its condition asks. Condition: the contracts of its callees, handed in. -/
import Derived.Test.YtnhdgebboafliaaRWalks
set_option linter.all false
namespace Go.Proofs.Ytnhdgebboafliaa
open Go Go.Sv
set_option maxHeartbeats 1000000
def S20 : Prop := ∀ (w : World) (χ : Nat → Nat) (o_ : Api_Object) (l_ : List Api_Oper) (picks : List Api_Pick) (a1 : Option Addr) (c1 : Nat) (a2 : Option Addr) (c2 : Nat) (a3 : Option Addr) (c3 : Nat), preO2 o_ l_ picks → RS tApi_Row w χ a1 o_.Rows c1 → RS tApi_Oper w χ a2 l_ c2 → RS tApi_Pick w χ a3 picks c3 → Ret Try.prog 20 #[.agg #[.int .i64 o_.States, .int .i64 o_.Kinds, .int .i64 o_.Init, .slice a1 o_.Rows.length c1], .slice a2 l_.length c2, .slice a3 picks.length c3] xnone w χ (fun w χ' v => ∃ (ra1 : Option Addr) (rc1 : Nat), v = .slice ra1 (run_States o_ l_ picks).length rc1 ∧ RS tI w χ' ra1 (run_States o_ l_ picks) rc1)
theorem hb20 : hasBody Try.prog 20 = true := by kernel_rfl
/-- replevin/run.States -/
theorem W20 (k44 : S44) (k45 : S45) (k68 : S68) (w0 : World) (χ0 : Nat → Nat) (o_ : Api_Object) (l_ : List Api_Oper) (picks : List Api_Pick) (a1 : Option Addr) (c1 : Nat) (a2 : Option Addr) (c2 : Nat) (a3 : Option Addr) (c3 : Nat) (Q : (List Int) → Prop) (hm : VC20 o_ l_ picks Q) (h1 : RS tApi_Row w0 χ0 a1 o_.Rows c1) (h2 : RS tApi_Oper w0 χ0 a2 l_ c2) (h3 : RS tApi_Pick w0 χ0 a3 picks c3) :
    Ret Try.prog 20 #[.agg #[.int .i64 o_.States, .int .i64 o_.Kinds, .int .i64 o_.Init, .slice a1 o_.Rows.length c1], .slice a2 l_.length c2, .slice a3 picks.length c3] xnone w0 χ0 (fun w χ' v => ∃ r, Q r ∧ ∃ (ra1 : Option Addr) (rc1 : Nat), v = .slice ra1 r.length rc1 ∧ RS tI w χ' ra1 r rc1) := by
  unfold VC20 at hm
  replace hm := hm (h1.sm (by kernel_rfl))
  replace hm := hm (h2.sm (by kernel_rfl))
  replace hm := hm (h3.sm (by kernel_rfl))
  refine enter Try.func20 rfl (vals := [.agg #[.int .i64 o_.States, .int .i64 o_.Kinds, .int .i64 o_.Init, .slice a1 o_.Rows.length c1], .slice a2 l_.length c2, .slice a3 picks.length c3]) (by kernel_rfl) ?_
  intro ρ a hS hO hM
  replace h1 := h1.m0 hM
  replace h2 := h2.m0 hM
  replace h3 := h3.m0 hM
  clear hM
  refine regM T hS (sp := []) (ks := [1, 2, 3]) (bs := [4]) (sy' := ⟨[(1, V (.slice a2 l_.length c2)), (2, V (.slice a3 picks.length c3)), (3, Pt 4 0)], [(4, (24, [I o_.States, I o_.Kinds, I o_.Init, V (.slice a1 o_.Rows.length c1)]))]⟩) (by kernel_rfl) ?_
  intro ρ a w173 χ174 hS hE hr
  replace hO := hO.mv hE rfl rfl
  replace h1 := h1.mv hE rfl
  replace h2 := h2.mv hE rfl
  replace h3 := h3.mv hE rfl
  clear hE hr
  refine wseq ?_
  refine regO ?_
  refine opsP T hS 3 (sp := []) (ks := [1, 2, 3, 13, 15]) (bs := [4]) (sy' := ⟨[(1, V (.slice a2 l_.length c2)), (2, V (.slice a3 picks.length c3)), (3, Pt 4 0), (13, V (.agg #[.int .i64 o_.States, .int .i64 o_.Kinds, .int .i64 o_.Init, .slice a1 o_.Rows.length c1])), (15, I o_.Init)], [(4, (24, [I o_.States, I o_.Kinds, I o_.Init, V (.slice a1 o_.Rows.length c1)]))]⟩) (by kernel_rfl) ?_
  intro a hS
  obtain ⟨hq, hm⟩ := hm
  refine op1 (call hS (by kernel_rfl) (by kernel_rfl) hb44 (by kernel_rfl) (fun _ _ => rfl) (k44 _ _ o_ o_.Init a1 c1 hq h1) ?_)
  intro v101 a w102 χ103 hE hp hS
  clear hq
  replace hO := hO.mv hE rfl rfl
  replace h1 := h1.mv hE rfl
  replace h2 := h2.mv hE rfl
  replace h3 := h3.mv hE rfl
  clear hE
  obtain ⟨r104, hr⟩ : ∃ r, run_may o_ o_.Init = r := ⟨_, rfl⟩
  replace hm := hm r104 hr
  rw [hr] at hp
  clear hr
  subst hp
  refine endP T hS (sp := []) (ks := [1, 2, 3, 17]) (bs := [4]) (sy' := ⟨[(1, V (.slice a2 l_.length c2)), (2, V (.slice a3 picks.length c3)), (3, Pt 4 0), (17, B (r104 != 0))], [(4, (24, [I o_.States, I o_.Kinds, I o_.Init, V (.slice a1 o_.Rows.length c1)]))]⟩) (by kernel_rfl) ?_
  intro a hS
  refine wcond hS (b := (r104 != 0)) (by kernel_rfl) (fun hb => ?_) (fun hb => ?_)
  · replace hm := hm.1 hb
    refine regP T hS (sp := []) (ks := [6]) (bs := []) (sy' := ⟨[(6, V (.slice none 0 0))], []⟩) (by kernel_rfl) ?_
    intro a hS
    refine wret ?_
    exact fin T hS hO (fun c => c) rfl (r := [.slice none 0 0]) (by kernel_rfl) (fun χ' hM hC => ⟨[], hm, none, 0, rfl, RS.empty _ _ _⟩)
  · replace hm := hm.2 hb
    refine wskip ?_
    refine regO ?_
    refine opsP T hS 4 (sp := []) (ks := [2, 3, 18, 19, 21]) (bs := [4]) (sy' := ⟨[(2, V (.slice a3 picks.length c3)), (3, Pt 4 0), (18, V (.agg #[.int .i64 o_.States, .int .i64 o_.Kinds, .int .i64 o_.Init, .slice a1 o_.Rows.length c1])), (19, V (.slice a2 l_.length c2)), (21, I o_.Init)], [(4, (24, [I o_.States, I o_.Kinds, I o_.Init, V (.slice a1 o_.Rows.length c1)]))]⟩) (by kernel_rfl) ?_
    intro a hS
    refine op1 (call hS (by kernel_rfl) (by kernel_rfl) hb45 (by kernel_rfl) (fun _ _ => rfl) (k45 _ _ o_ l_ o_.Init a1 c1 a2 c2 2113 701 702 703 704 h1 h2) ?_)
    intro v105 a w106 χ107 hE hp hS
    replace hO := hO.mv hE rfl rfl
    replace h1 := h1.mv hE rfl
    replace h2 := h2.mv hE rfl
    replace h3 := h3.mv hE rfl
    clear hE
    obtain ⟨a109, c110, r113, a114, c115, b117, b118, b119, b120, hp, h111, h116, hc121, hc122, h112, hc123, hc124⟩ := hp
    obtain ⟨r108, hr⟩ : ∃ r, run_runner o_ l_ o_.Init = r := ⟨_, rfl⟩
    replace hm := hm r108 hr
    rw [hr] at h111 h116 hc121 hc123 hc124 h112
    clear hr
    subst hp
    replace hm := hm (h111.sm (by kernel_rfl))
    replace hm := hm (h116.sm (by kernel_rfl))
    replace hS := hS.newbox (id := 701) (t := 25) (cs := [V (.slice a109 r108.1.length c110)]) (by kernel_rfl) (by kernel_rfl) hc121 rfl
    replace hS := hS.newbox (id := 702) (t := 85) (cs := [V (.map (some r113))]) (by kernel_rfl) (by kernel_rfl) hc122 rfl
    replace hS := hS.newbox (id := 703) (t := 24) (cs := [I r108.2.2.1.States, I r108.2.2.1.Kinds, I r108.2.2.1.Init, V (.slice a114 r108.2.2.1.Rows.length c115)]) (by kernel_rfl) (by kernel_rfl) hc123 rfl
    replace hS := hS.newbox (id := 704) (t := 3) (cs := [I r108.2.2.2]) (by kernel_rfl) (by kernel_rfl) hc124 rfl
    replace hS := hS.convS (t := 22) (x := V (.func (.func 68) #[] #[.pointer (some ⟨b117, 0, none⟩), .pointer (some ⟨b118, 0, none⟩), .pointer (some ⟨b119, 0, none⟩), .pointer (some ⟨b120, 0, none⟩)])) (y := .f (.func 68) [] [.p 701 0, .p 702 0, .p 703 0, .p 704 0]) (by kernel_rfl) rfl
    generalize (upd (upd (upd (upd ρ 701 b117) 702 b118) 703 b119) 704 b120) = ρ at hS
    clear hc121 hc122 hc123 hc124
    refine endP T hS (sp := []) (ks := [2, 3, 7]) (bs := [4, 701, 702, 703, 704]) (sy' := ⟨[(2, V (.slice a3 picks.length c3)), (3, Pt 4 0), (7, .f (.func 68) [] [.p 701 0, .p 702 0, .p 703 0, .p 704 0])], [(4, (24, [I o_.States, I o_.Kinds, I o_.Init, V (.slice a1 o_.Rows.length c1)])), (701, (25, [V (.slice a109 r108.1.length c110)])), (702, (85, [V (.map (some r113))])), (703, (24, [I r108.2.2.1.States, I r108.2.2.1.Kinds, I r108.2.2.1.Init, V (.slice a114 r108.2.2.1.Rows.length c115)])), (704, (3, [I r108.2.2.2]))]⟩) (by kernel_rfl) ?_
    intro a hS
    refine regO ?_
    refine opsP T hS 2 (sp := []) (ks := [2, 7, 24]) (bs := [701, 702, 703, 704]) (sy' := ⟨[(2, V (.slice a3 picks.length c3)), (7, .f (.func 68) [] [.p 701 0, .p 702 0, .p 703 0, .p 704 0]), (24, I o_.Init)], [(701, (25, [V (.slice a109 r108.1.length c110)])), (702, (85, [V (.map (some r113))])), (703, (24, [I r108.2.2.1.States, I r108.2.2.1.Kinds, I r108.2.2.1.Init, V (.slice a114 r108.2.2.1.Rows.length c115)])), (704, (3, [I r108.2.2.2]))]⟩) (by kernel_rfl) ?_
    intro a hS
    refine op1 (lit (E := 3) (col := 1007) (T := tI) (vals := [.int .i64 o_.Init]) (ys := [o_.Init]) T hS (by kernel_rfl) (by kernel_rfl) (by kernel_rfl) (by kernel_rfl) (by exact ⟨rfl, trivial⟩) rfl (by kernel_rfl) (by kernel_rfl) (by kernel_rfl) (by kernel_rfl) ?_)
    intro b125 a w126 χ127 hE h128 hN hS
    clear hN
    replace hO := hO.mv hE rfl rfl
    replace h3 := h3.mv hE rfl
    replace h112 := h112.mv hE rfl rfl
    replace h111 := h111.mv hE rfl
    replace h116 := h116.mv hE rfl
    clear hE
    refine endP T hS (sp := []) (ks := [2, 7, 8]) (bs := [701, 702, 703, 704]) (sy' := ⟨[(2, V (.slice a3 picks.length c3)), (7, .f (.func 68) [] [.p 701 0, .p 702 0, .p 703 0, .p 704 0]), (8, V (.slice (some ⟨b125, 0, none⟩) [o_.Init].length 1))], [(701, (25, [V (.slice a109 r108.1.length c110)])), (702, (85, [V (.map (some r113))])), (703, (24, [I r108.2.2.1.States, I r108.2.2.1.Kinds, I r108.2.2.1.Init, V (.slice a114 r108.2.2.1.Rows.length c115)])), (704, (3, [I r108.2.2.2]))]⟩) (by kernel_rfl) ?_
    intro a hS
    refine wcut (fun a w => ∃ (ρ : Nat → Nat) (χ : Nat → Nat) (out_129 : List Int) (a130 : Option Addr) (c131 : Nat), VC20_J1 Q out_129 ∧ St Try.f20.ntmps ⟨[(8, V (.slice a130 out_129.length c131))], []⟩ ρ a w χ ∧ Old w0 χ0 w χ ∧ OS tI 3 w χ 1007 a130 out_129 c131) ?_ ?_
    · refine regP T hS (sp := []) (ks := [7, 8, 26, 27, 28]) (bs := [701, 702, 703, 704]) (sy' := ⟨[(7, .f (.func 68) [] [.p 701 0, .p 702 0, .p 703 0, .p 704 0]), (8, V (.slice (some ⟨b125, 0, none⟩) [o_.Init].length 1)), (26, V (.slice a3 picks.length c3)), (27, I ((picks.length : Nat) : Int)), (28, I 0)], [(701, (25, [V (.slice a109 r108.1.length c110)])), (702, (85, [V (.map (some r113))])), (703, (24, [I r108.2.2.1.States, I r108.2.2.1.Kinds, I r108.2.2.1.Init, V (.slice a114 r108.2.2.1.Rows.length c115)])), (704, (3, [I r108.2.2.2]))]⟩) (by kernel_rfl) ?_
      intro a hS
      refine wblock ?_
      obtain ⟨I1, μ1, hm0, hm⟩ := hm
      refine wloop (σ := (List Int) × Int × (List (Int × Int)) × Int) (fun s a w => ∃ (ρ : Nat → Nat) (χ : Nat → Nat) (a136 : Option Addr) (c137 : Nat), I1 s.1 s.2.1 s.2.2.1 s.2.2.2 ∧ St Try.f20.ntmps ⟨[(7, .f (.func 68) [] [.p 701 0, .p 702 0, .p 703 0, .p 704 0]), (8, V (.slice a136 s.1.length c137)), (26, V (.slice a3 picks.length c3)), (27, I ((picks.length : Nat) : Int)), (28, I s.2.1)], [(701, (25, [V (.slice a109 r108.1.length c110)])), (702, (85, [V (.map (some r113))])), (703, (24, [I r108.2.2.1.States, I r108.2.2.1.Kinds, I r108.2.2.1.Init, V (.slice a114 r108.2.2.1.Rows.length c115)])), (704, (3, [I s.2.2.2]))]⟩ ρ a w χ ∧ Old w0 χ0 w χ ∧ OS tI 3 w χ 1007 a136 s.1 c137 ∧ RS tApi_Pick w χ a3 picks c3 ∧ RS tApi_Oper w χ a109 r108.1 c110 ∧ OM kI tI false w χ 2113 r113 s.2.2.1 ∧ RS tApi_Row w χ a114 r108.2.2.1.Rows c115) (fun s => μ1 s.1 s.2.1 s.2.2.1 s.2.2.2) (⟨[o_.Init], 0, r108.2.1, r108.2.2.2⟩) ?_ ?_
      · exact ⟨ρ, _, (some ⟨b125, 0, none⟩), 1, hm0, hS.sel [7, 8, 26, 27, 28] [701, 702, 703, 704] (by kernel_rfl), hO, h128, h3, h111, h112, h116⟩
      · rintro ⟨out_135, x_140, x_142, x_145⟩ a w170 ⟨ρ, χ169, a136, c137, hI, hS, hO, h138, h139, h141, h143, h144⟩
        replace hm := hm out_135 x_140 x_142 x_145 hI
        clear hI hm0
        refine regP T hS (sp := []) (ks := [7, 8, 26, 27, 28, 29]) (bs := [701, 702, 703, 704]) (sy' := ⟨[(7, .f (.func 68) [] [.p 701 0, .p 702 0, .p 703 0, .p 704 0]), (8, V (.slice a136 out_135.length c137)), (26, V (.slice a3 picks.length c3)), (27, I ((picks.length : Nat) : Int)), (28, I x_140), (29, B (decide (x_140 < ((picks.length : Nat) : Int))))], [(701, (25, [V (.slice a109 r108.1.length c110)])), (702, (85, [V (.map (some r113))])), (703, (24, [I r108.2.2.1.States, I r108.2.2.1.Kinds, I r108.2.2.1.Init, V (.slice a114 r108.2.2.1.Rows.length c115)])), (704, (3, [I x_145]))]⟩) (by kernel_rfl) ?_
        intro a hS
        refine wseq ?_
        refine wcond hS (b := decide (x_140 < ((picks.length : Nat) : Int))) (by kernel_rfl) (fun hb => ?_) (fun hb => ?_)
        · replace hm := hm.1 hb
          refine wskip ?_
          refine wseq ?_
          refine wblock ?_
          refine regO ?_
          obtain ⟨hq, hm⟩ := hm
          refine op1 (index (e := 52) (k := .i64) T hS (by kernel_rfl) (by kernel_rfl) (by kernel_rfl) (by kernel_rfl) h139 (by kernel_rfl) (by kernel_rfl) hq.1 hq.2 ?_)
          intro A146 a h147 hS
          clear hq
          refine op1 (loadA T hS (by kernel_rfl) (by kernel_rfl) (by kernel_rfl) h147 (by kernel_rfl) (by kernel_rfl) ?_)
          intro v148 a hv hS
          subst hv
          refine endM T hS (sp := []) (ks := [7, 8, 10, 26, 27, 28]) (bs := [11, 701, 702, 703, 704]) (sy' := ⟨[(7, .f (.func 68) [] [.p 701 0, .p 702 0, .p 703 0, .p 704 0]), (8, V (.slice a136 out_135.length c137)), (10, Pt 11 0), (26, V (.slice a3 picks.length c3)), (27, I ((picks.length : Nat) : Int)), (28, I x_140)], [(11, (52, [I ((gi picks x_140).Oper), I ((gi picks x_140).Result)])), (701, (25, [V (.slice a109 r108.1.length c110)])), (702, (85, [V (.map (some r113))])), (703, (24, [I r108.2.2.1.States, I r108.2.2.1.Kinds, I r108.2.2.1.Init, V (.slice a114 r108.2.2.1.Rows.length c115)])), (704, (3, [I x_145]))]⟩) (by kernel_rfl) ?_
          intro ρ a w167 χ168 hS hE hr
          replace hO := hO.mv hE rfl rfl
          replace h138 := h138.mv hE rfl rfl
          replace h139 := h139.mv hE rfl
          replace h141 := h141.mv hE rfl
          replace h143 := h143.mv hE rfl rfl
          replace h144 := h144.mv hE rfl
          clear hE hr
          refine regO ?_
          refine opsP T hS 2 (sp := []) (ks := [7, 8, 26, 27, 28, 33, 34]) (bs := [701, 702, 703, 704]) (sy' := ⟨[(7, .f (.func 68) [] [.p 701 0, .p 702 0, .p 703 0, .p 704 0]), (8, V (.slice a136 out_135.length c137)), (26, V (.slice a3 picks.length c3)), (27, I ((picks.length : Nat) : Int)), (28, I x_140), (33, .f (.func 68) [] [.p 701 0, .p 702 0, .p 703 0, .p 704 0]), (34, V (.agg #[.int .i64 ((gi picks x_140).Oper), .int .i64 ((gi picks x_140).Result)]))], [(701, (25, [V (.slice a109 r108.1.length c110)])), (702, (85, [V (.map (some r113))])), (703, (24, [I r108.2.2.1.States, I r108.2.2.1.Kinds, I r108.2.2.1.Init, V (.slice a114 r108.2.2.1.Rows.length c115)])), (704, (3, [I x_145]))]⟩) (by kernel_rfl) ?_
          intro a hS
          refine op1 (callCR (fi := []) (cp := [.p 701 0, .p 702 0, .p 703 0, .p 704 0]) hS (by kernel_rfl) (by kernel_rfl) hb68 (by kernel_rfl) (by kernel_rfl) (k68 _ _ (gi picks x_140) r108.1 x_142 r108.2.2.1 x_145 a109 c110 r113 2113 a114 c115 (ρ 701) 701 (ρ 702) 702 (ρ 703) 703 (ρ 704) 704 h141 h143 h144 (hS.cell (id := 701) (t := 25) (cs := [V (.slice a109 r108.1.length c110)]) (by kernel_rfl)) (hS.cell (id := 702) (t := 85) (cs := [V (.map (some r113))]) (by kernel_rfl)) (hS.cell (id := 703) (t := 24) (cs := [I r108.2.2.1.States, I r108.2.2.1.Kinds, I r108.2.2.1.Init, V (.slice a114 r108.2.2.1.Rows.length c115)]) (by kernel_rfl)) (hS.cell (id := 704) (t := 3) (cs := [I x_145]) (by kernel_rfl)) ⟨by decide, by decide⟩) ?_)
          intro v149 a w150 χ151 hE hp hS
          clear h143
          replace hO := hO.mv hE rfl rfl
          replace h138 := h138.mv hE rfl rfl
          replace h139 := h139.mv hE rfl
          replace h141 := h141.mv hE rfl
          replace h144 := h144.mv hE rfl
          clear hE
          obtain ⟨hp, hc154, hc155, h153, hc156, hc157⟩ := hp
          obtain ⟨r152, hr⟩ : ∃ r, run_runner_1 (gi picks x_140) r108.1 x_142 r108.2.2.1 x_145 = r := ⟨_, rfl⟩
          replace hm := hm r152 hr
          rw [hr] at hp hc157 h153
          clear hr
          subst hp
          replace hS := hS.addbox (id := 701) (t := 25) (cs := [V (.slice a109 r108.1.length c110)]) (by kernel_rfl) hc154
          replace hS := hS.addbox (id := 702) (t := 85) (cs := [V (.map (some r113))]) (by kernel_rfl) hc155
          replace hS := hS.addbox (id := 703) (t := 24) (cs := [I r108.2.2.1.States, I r108.2.2.1.Kinds, I r108.2.2.1.Init, V (.slice a114 r108.2.2.1.Rows.length c115)]) (by kernel_rfl) hc156
          replace hS := hS.addbox (id := 704) (t := 3) (cs := [I r152.2.2.2]) (by kernel_rfl) hc157
          clear hc154 hc155 hc156 hc157
          refine endP T hS (sp := []) (ks := [7, 8, 11, 12, 26, 27, 28]) (bs := [701, 702, 703, 704]) (sy' := ⟨[(7, .f (.func 68) [] [.p 701 0, .p 702 0, .p 703 0, .p 704 0]), (8, V (.slice a136 out_135.length c137)), (11, I r152.1), (12, I r152.2.1), (26, V (.slice a3 picks.length c3)), (27, I ((picks.length : Nat) : Int)), (28, I x_140)], [(701, (25, [V (.slice a109 r108.1.length c110)])), (702, (85, [V (.map (some r113))])), (703, (24, [I r108.2.2.1.States, I r108.2.2.1.Kinds, I r108.2.2.1.Init, V (.slice a114 r108.2.2.1.Rows.length c115)])), (704, (3, [I r152.2.2.2]))]⟩) (by kernel_rfl) ?_
          intro a hS
          refine wseq ?_
          refine regP T hS (sp := []) (ks := [7, 8, 11, 26, 27, 28, 39]) (bs := [701, 702, 703, 704]) (sy' := ⟨[(7, .f (.func 68) [] [.p 701 0, .p 702 0, .p 703 0, .p 704 0]), (8, V (.slice a136 out_135.length c137)), (11, I r152.1), (26, V (.slice a3 picks.length c3)), (27, I ((picks.length : Nat) : Int)), (28, I x_140), (39, B (r152.2.1 != 0))], [(701, (25, [V (.slice a109 r108.1.length c110)])), (702, (85, [V (.map (some r113))])), (703, (24, [I r108.2.2.1.States, I r108.2.2.1.Kinds, I r108.2.2.1.Init, V (.slice a114 r108.2.2.1.Rows.length c115)])), (704, (3, [I r152.2.2.2]))]⟩) (by kernel_rfl) ?_
          intro a hS
          refine wcond hS (b := (r152.2.1 != 0)) (by kernel_rfl) (fun hb => ?_) (fun hb => ?_)
          · replace hm := hm.1 hb
            refine regP T hS (sp := []) (ks := [6]) (bs := []) (sy' := ⟨[(6, V (.slice none 0 0))], []⟩) (by kernel_rfl) ?_
            intro a hS
            refine wret ?_
            exact fin T hS hO (fun c => c) rfl (r := [.slice none 0 0]) (by kernel_rfl) (fun χ' hM hC => ⟨[], hm, none, 0, rfl, RS.empty _ _ _⟩)
          · replace hm := hm.2 hb
            refine wskip ?_
            refine region ?_
            refine opsP T hS 2 (sp := []) (ks := [7, 8, 26, 27, 28, 40, 41]) (bs := [701, 702, 703, 704]) (sy' := ⟨[(7, .f (.func 68) [] [.p 701 0, .p 702 0, .p 703 0, .p 704 0]), (8, V (.slice a136 out_135.length c137)), (26, V (.slice a3 picks.length c3)), (27, I ((picks.length : Nat) : Int)), (28, I x_140), (40, V (.slice a136 out_135.length c137)), (41, I r152.1)], [(701, (25, [V (.slice a109 r108.1.length c110)])), (702, (85, [V (.map (some r113))])), (703, (24, [I r108.2.2.1.States, I r108.2.2.1.Kinds, I r108.2.2.1.Init, V (.slice a114 r108.2.2.1.Rows.length c115)])), (704, (3, [I r152.2.2.2]))]⟩) (by kernel_rfl) ?_
            intro a hS
            refine op1 (lit (E := 3) (col := 0) (T := tI) (vals := [.int .i64 r152.1]) (ys := [r152.1]) T hS (by kernel_rfl) (by kernel_rfl) (by kernel_rfl) (by kernel_rfl) (by exact ⟨rfl, trivial⟩) rfl (by kernel_rfl) (by kernel_rfl) (by kernel_rfl) (by kernel_rfl) ?_)
            intro b158 a w159 χ160 hE h161 hN hS
            clear hN
            replace hO := hO.mv hE rfl rfl
            replace h138 := h138.mv hE rfl rfl
            replace h139 := h139.mv hE rfl
            replace h141 := h141.mv hE rfl
            replace h144 := h144.mv hE rfl
            replace h153 := h153.mv hE rfl rfl
            clear hE
            replace h161 := h161.rs0
            obtain ⟨hq, hm⟩ := hm
            obtain ⟨news, hN⟩ := h161.src
            refine op1 (append (E := 3) (T := tI) (col := 1007) (xs := out_135) T hS (by kernel_rfl) (by kernel_rfl) (by kernel_rfl) (by kernel_rfl) h138 hN (by kernel_rfl) (by kernel_rfl) (by kernel_rfl) (by kernel_rfl) hq ?_)
            intro a165 c166 a w162 χ163 hE h164 hS
            clear hq hN
            clear h138
            replace hO := hO.mv hE rfl rfl
            replace h139 := h139.mv hE rfl
            replace h141 := h141.mv hE rfl
            replace h144 := h144.mv hE rfl
            replace h153 := h153.mv hE rfl rfl
            replace h161 := h161.mv hE rfl
            clear hE
            refine endP T hS (sp := []) (ks := [7, 8, 26, 27, 28]) (bs := [701, 702, 703, 704]) (sy' := ⟨[(7, .f (.func 68) [] [.p 701 0, .p 702 0, .p 703 0, .p 704 0]), (8, V (.slice a165 (out_135 ++ [r152.1]).length c166)), (26, V (.slice a3 picks.length c3)), (27, I ((picks.length : Nat) : Int)), (28, I x_140)], [(701, (25, [V (.slice a109 r108.1.length c110)])), (702, (85, [V (.map (some r113))])), (703, (24, [I r108.2.2.1.States, I r108.2.2.1.Kinds, I r108.2.2.1.Init, V (.slice a114 r108.2.2.1.Rows.length c115)])), (704, (3, [I r152.2.2.2]))]⟩) (by kernel_rfl) ?_
            intro a hS
            refine region (endP T hS (sp := []) (ks := [7, 8, 26, 27, 28]) (bs := [701, 702, 703, 704]) (sy' := ⟨[(7, .f (.func 68) [] [.p 701 0, .p 702 0, .p 703 0, .p 704 0]), (8, V (.slice a165 (out_135 ++ [r152.1]).length c166)), (26, V (.slice a3 picks.length c3)), (27, I ((picks.length : Nat) : Int)), (28, I (IntKind.i64.wrap (x_140 + 1)))], [(701, (25, [V (.slice a109 r108.1.length c110)])), (702, (85, [V (.map (some r113))])), (703, (24, [I r108.2.2.1.States, I r108.2.2.1.Kinds, I r108.2.2.1.Init, V (.slice a114 r108.2.2.1.Rows.length c115)])), (704, (3, [I r152.2.2.2]))]⟩) (by kernel_rfl) ?_)
            intro a hS
            exact ⟨⟨out_135 ++ [r152.1], IntKind.i64.wrap (x_140 + 1), r152.2.2.1, r152.2.2.2⟩, ⟨ρ, _, a165, c166, hm.1, hS.sel [7, 8, 26, 27, 28] [701, 702, 703, 704] (by kernel_rfl), hO, h164, h139, h141, h153, h144⟩, hm.2⟩
        · replace hm := hm.2 hb
          refine wexit (by rfl) ?_
          exact ⟨ρ, _, out_135, a136, c137, hm, hS.sel [8] [] (by kernel_rfl), hO, h138⟩
    · rintro a w172 ⟨ρ, χ171, out_129, a130, c131, hm, hS, hO, h132⟩
      unfold VC20_J1 at hm
      refine regP T hS (sp := []) (ks := [6]) (bs := []) (sy' := ⟨[(6, V (.slice a130 out_129.length c131))], []⟩) (by kernel_rfl) ?_
      intro a hS
      refine wret ?_
      obtain ⟨χ133, hE, hF⟩ := h132.freeze (by decide)
      replace hS := hS.ev hE (xone_box (by kernel_rfl))
      replace hO := hO.mv hE rfl rfl
      have h134 := hF; clear hE hF
      exact fin T hS hO (fun c => c) rfl (r := [.slice a130 out_129.length c131]) (by kernel_rfl) (fun χ' hM hC => ⟨out_129, hm, a130, c131, rfl, h134.m0 hM⟩)
theorem C20 (k44 : S44) (k45 : S45) (k68 : S68) (v : ∀ (o_ : Api_Object) (l_ : List Api_Oper) (picks : List Api_Pick), preO2 o_ l_ picks → VC20 o_ l_ picks (fun r => r = run_States o_ l_ picks)) : S20 := by
  intro w χ o_ l_ picks a1 c1 a2 c2 a3 c3   hp h1 h2 h3
  refine (W20 k44 k45 k68 w χ o_ l_ picks a1 c1 a2 c2 a3 c3   _ (v o_ l_ picks hp) h1 h2 h3).mono ?_
  rintro _ _ _ _ ⟨r, rfl, h⟩
  exact h
def S21 : Prop := ∀ (w : World) (χ : Nat → Nat) (o_ : Api_Object) (l_ : List Api_Oper) (picks : List Api_Pick) (a1 : Option Addr) (c1 : Nat) (a2 : Option Addr) (c2 : Nat) (a3 : Option Addr) (c3 : Nat), preR2 o_ l_ picks → RS tApi_Row w χ a1 o_.Rows c1 → RS tApi_Oper w χ a2 l_ c2 → RS tApi_Pick w χ a3 picks c3 → Ret Try.prog 21 #[.agg #[.int .i64 o_.States, .int .i64 o_.Kinds, .int .i64 o_.Init, .slice a1 o_.Rows.length c1], .slice a2 l_.length c2, .slice a3 picks.length c3] xnone w χ (fun w χ' v => ∃ (ra1 : Option Addr) (rc1 : Nat), v = .slice ra1 (ref28_States o_ l_ picks).length rc1 ∧ RS tI w χ' ra1 (ref28_States o_ l_ picks) rc1)
theorem hb21 : hasBody Try.prog 21 = true := by kernel_rfl
/-- replevin/replevinref28.States -/
theorem W21 (k15 : S15) (w0 : World) (χ0 : Nat → Nat) (o_ : Api_Object) (l_ : List Api_Oper) (picks : List Api_Pick) (a1 : Option Addr) (c1 : Nat) (a2 : Option Addr) (c2 : Nat) (a3 : Option Addr) (c3 : Nat) (Q : (List Int) → Prop) (hm : VC21 o_ l_ picks Q) (h1 : RS tApi_Row w0 χ0 a1 o_.Rows c1) (h2 : RS tApi_Oper w0 χ0 a2 l_ c2) (h3 : RS tApi_Pick w0 χ0 a3 picks c3) :
    Ret Try.prog 21 #[.agg #[.int .i64 o_.States, .int .i64 o_.Kinds, .int .i64 o_.Init, .slice a1 o_.Rows.length c1], .slice a2 l_.length c2, .slice a3 picks.length c3] xnone w0 χ0 (fun w χ' v => ∃ r, Q r ∧ ∃ (ra1 : Option Addr) (rc1 : Nat), v = .slice ra1 r.length rc1 ∧ RS tI w χ' ra1 r rc1) := by
  unfold VC21 at hm
  replace hm := hm (h1.sm (by kernel_rfl))
  replace hm := hm (h2.sm (by kernel_rfl))
  replace hm := hm (h3.sm (by kernel_rfl))
  refine enter Try.func21 rfl (vals := [.agg #[.int .i64 o_.States, .int .i64 o_.Kinds, .int .i64 o_.Init, .slice a1 o_.Rows.length c1], .slice a2 l_.length c2, .slice a3 picks.length c3]) (by kernel_rfl) ?_
  intro ρ a hS hO hM
  replace h1 := h1.m0 hM
  replace h2 := h2.m0 hM
  replace h3 := h3.m0 hM
  clear hM
  refine regM T hS (sp := []) (ks := [1, 2, 3]) (bs := [4]) (sy' := ⟨[(1, V (.slice a2 l_.length c2)), (2, V (.slice a3 picks.length c3)), (3, Pt 4 0)], [(4, (24, [I o_.States, I o_.Kinds, I o_.Init, V (.slice a1 o_.Rows.length c1)]))]⟩) (by kernel_rfl) ?_
  intro ρ a w136 χ137 hS hE hr
  replace hO := hO.mv hE rfl rfl
  replace h1 := h1.mv hE rfl
  replace h2 := h2.mv hE rfl
  replace h3 := h3.mv hE rfl
  clear hE hr
  refine regP T hS (sp := []) (ks := [1, 2, 3, 7]) (bs := [4]) (sy' := ⟨[(1, V (.slice a2 l_.length c2)), (2, V (.slice a3 picks.length c3)), (3, Pt 4 0), (7, V (.slice none 0 0))], [(4, (24, [I o_.States, I o_.Kinds, I o_.Init, V (.slice a1 o_.Rows.length c1)]))]⟩) (by kernel_rfl) ?_
  intro a hS
  refine wcut (fun a w => ∃ (ρ : Nat → Nat) (χ : Nat → Nat) (out_101 : List Int) (a102 : Option Addr) (c103 : Nat), VC21_J1 Q out_101 ∧ St Try.f21.ntmps ⟨[(7, V (.slice a102 out_101.length c103))], []⟩ ρ a w χ ∧ Old w0 χ0 w χ ∧ OS tI 3 w χ 1007 a102 out_101 c103) ?_ ?_
  · refine regP T hS (sp := []) (ks := [1, 2, 3, 7, 8]) (bs := [4]) (sy' := ⟨[(1, V (.slice a2 l_.length c2)), (2, V (.slice a3 picks.length c3)), (3, Pt 4 0), (7, V (.slice none 0 0)), (8, I 0)], [(4, (24, [I o_.States, I o_.Kinds, I o_.Init, V (.slice a1 o_.Rows.length c1)]))]⟩) (by kernel_rfl) ?_
    intro a hS
    refine wblock ?_
    obtain ⟨I1, μ1, hm0, hm⟩ := hm
    refine wloop (σ := (List Int) × Int) (fun s a w => ∃ (ρ : Nat → Nat) (χ : Nat → Nat) (a110 : Option Addr) (c111 : Nat), I1 s.1 s.2 ∧ St Try.f21.ntmps ⟨[(1, V (.slice a2 l_.length c2)), (2, V (.slice a3 picks.length c3)), (3, Pt 4 0), (7, V (.slice a110 s.1.length c111)), (8, I s.2)], [(4, (24, [I o_.States, I o_.Kinds, I o_.Init, V (.slice a1 o_.Rows.length c1)]))]⟩ ρ a w χ ∧ Old w0 χ0 w χ ∧ RS tApi_Oper w χ a2 l_ c2 ∧ RS tApi_Pick w χ a3 picks c3 ∧ OS tI 3 w χ 1007 a110 s.1 c111 ∧ RS tApi_Row w χ a1 o_.Rows c1) (fun s => μ1 s.1 s.2) (⟨[], 0⟩) ?_ ?_
    · exact ⟨ρ, _, none, 0, hm0, hS.sel [1, 2, 3, 7, 8] [4] (by kernel_rfl), hO, h2, h3, (OS.nil _ _ _ _ _), h1⟩
    · rintro ⟨out_109, i_113⟩ a w133 ⟨ρ, χ132, a110, c111, hI, hS, hO, h107, h108, h112, h114⟩
      replace hm := hm out_109 i_113 hI
      clear hI hm0
      refine wseq ?_
      refine regP T hS (sp := []) (ks := [1, 2, 3, 7, 8, 15]) (bs := [4]) (sy' := ⟨[(1, V (.slice a2 l_.length c2)), (2, V (.slice a3 picks.length c3)), (3, Pt 4 0), (7, V (.slice a110 out_109.length c111)), (8, I i_113), (15, B (decide (i_113 ≤ ((picks.length : Nat) : Int))))], [(4, (24, [I o_.States, I o_.Kinds, I o_.Init, V (.slice a1 o_.Rows.length c1)]))]⟩) (by kernel_rfl) ?_
      intro a hS
      refine wcond hS (b := decide (i_113 ≤ ((picks.length : Nat) : Int))) (by kernel_rfl) (fun hb => ?_) (fun hb => ?_)
      · replace hm := hm.1 hb
        refine wskip ?_
        refine wseq ?_
        refine wblock ?_
        refine drawnS [4] mixed hS ?_
        intro w115 hS hE hD hH
        replace hO := hO.mv hE rfl rfl
        replace h107 := h107.mv hE rfl
        replace h108 := h108.mv hE rfl
        replace h112 := h112.mv hE rfl rfl
        replace h114 := h114.mv hE rfl
        clear hE
        refine take T [0, 1, 2, 4, 5, 3] [4] [1, 2, 3, 7, 8, 19, 20, 22, 23, 24] hS (by kernel_rfl) (by kernel_rfl) (by kernel_rfl) hH (listed' := #[true, true, true, true, true, true, false, false, false, false, false, false, false, false, false]) (fuel := 9) (sy' := ⟨[(1, V (.slice a2 l_.length c2)), (2, V (.slice a3 picks.length c3)), (3, Pt 4 0), (7, V (.slice a110 out_109.length c111)), (8, I i_113), (19, V (.agg #[.int .i64 o_.States, .int .i64 o_.Kinds, .int .i64 o_.Init, .slice a1 o_.Rows.length c1])), (20, V (.slice a2 l_.length c2)), (22, I o_.Init), (23, V (.slice a3 picks.length c3)), (24, I i_113)], [(4, (24, [I o_.States, I o_.Kinds, I o_.Init, V (.slice a1 o_.Rows.length c1)]))]⟩) (by kernel_rfl) (by rfl) ?_
        intro a hS
        obtain ⟨hq, hm⟩ := hm
        refine dslice0 (E := 52) (kh := .i64) T 6 hS (by kernel_rfl) (by kernel_rfl) (by kernel_rfl) (by rfl) (by kernel_rfl) hH (by kernel_rfl) (by kernel_rfl) h108 (by kernel_rfl) (by kernel_rfl) hq.1 hq.2 ?_
        intro a116 c117 a h118 hS
        clear hq
        refine only 7 (by kernel_rfl) (by rfl) (call hS (by kernel_rfl) (by kernel_rfl) hb15 (by kernel_rfl) (fun _ _ => rfl) (k15 _ _ o_ l_ o_.Init (picks.take i_113.toNat) a1 c1 a2 c2 a116 c117 h114 h107 h118) ?_)
        intro v119 a w120 χ121 hE hp hS
        replace hO := hO.mv hE rfl rfl
        replace hD := hD.ev hE rfl
        replace h107 := h107.mv hE rfl
        replace h108 := h108.mv hE rfl
        replace h112 := h112.mv hE rfl rfl
        replace h114 := h114.mv hE rfl
        replace h118 := h118.mv hE rfl
        clear hE
        obtain ⟨r122, hr⟩ : ∃ r, ref28_From o_ l_ o_.Init (picks.take i_113.toNat) = r := ⟨_, rfl⟩
        replace hm := hm r122 hr
        rw [hr] at hp
        clear hr
        subst hp
        replace hS := hS.sel [1, 2, 3, 7, 8, 19, 20, 22, 23, 24, 25, 26] [4] (sy' := ⟨[(1, V (.slice a2 l_.length c2)), (2, V (.slice a3 picks.length c3)), (3, Pt 4 0), (7, V (.slice a110 out_109.length c111)), (8, I i_113), (19, V (.agg #[.int .i64 o_.States, .int .i64 o_.Kinds, .int .i64 o_.Init, .slice a1 o_.Rows.length c1])), (20, V (.slice a2 l_.length c2)), (22, I o_.Init), (23, V (.slice a3 picks.length c3)), (24, I i_113), (25, V (.slice a116 (picks.take i_113.toNat).length c117)), (26, V (.tuple #[.int .i64 r122.1, .int .i64 r122.2.1, .int .i64 r122.2.2]))], [(4, (24, [I o_.States, I o_.Kinds, I o_.Init, V (.slice a1 o_.Rows.length c1)]))]⟩) (by kernel_rfl)
        refine andH (Hold.of hS (bks := [4]) (by kernel_rfl) hD) ?_
        intro hH
        refine take T [8, 9, 10, 11, 12, 13, 14] [4] [1, 2, 3, 7, 8, 9, 11] hS (by kernel_rfl) (by kernel_rfl) (by kernel_rfl) hH (listed' := #[true, true, true, true, true, true, true, true, true, true, true, true, true, true, true]) (fuel := 0) (sy' := ⟨[(1, V (.slice a2 l_.length c2)), (2, V (.slice a3 picks.length c3)), (3, Pt 4 0), (7, V (.slice a110 out_109.length c111)), (8, I i_113), (9, I r122.1), (11, I r122.2.2)], [(4, (24, [I o_.States, I o_.Kinds, I o_.Init, V (.slice a1 o_.Rows.length c1)]))]⟩) (by kernel_rfl) (by rfl) ?_
        intro a hS
        refine drawnDone (by kernel_rfl) ?_
        clear hD hH
        replace hS := hS.sel [1, 2, 3, 7, 8, 9, 11] [4] (sy' := ⟨[(1, V (.slice a2 l_.length c2)), (2, V (.slice a3 picks.length c3)), (3, Pt 4 0), (7, V (.slice a110 out_109.length c111)), (8, I i_113), (9, I r122.1), (11, I r122.2.2)], [(4, (24, [I o_.States, I o_.Kinds, I o_.Init, V (.slice a1 o_.Rows.length c1)]))]⟩) (by kernel_rfl)
        refine wseq ?_
        refine regP T hS (sp := []) (ks := [1, 2, 3, 7, 8, 9, 31]) (bs := [4]) (sy' := ⟨[(1, V (.slice a2 l_.length c2)), (2, V (.slice a3 picks.length c3)), (3, Pt 4 0), (7, V (.slice a110 out_109.length c111)), (8, I i_113), (9, I r122.1), (31, B (r122.2.2 != 0))], [(4, (24, [I o_.States, I o_.Kinds, I o_.Init, V (.slice a1 o_.Rows.length c1)]))]⟩) (by kernel_rfl) ?_
        intro a hS
        refine wcond hS (b := (r122.2.2 != 0)) (by kernel_rfl) (fun hb => ?_) (fun hb => ?_)
        · replace hm := hm.1 hb
          refine regP T hS (sp := []) (ks := [6]) (bs := []) (sy' := ⟨[(6, V (.slice none 0 0))], []⟩) (by kernel_rfl) ?_
          intro a hS
          refine wret ?_
          exact fin T hS hO (fun c => c) rfl (r := [.slice none 0 0]) (by kernel_rfl) (fun χ' hM hC => ⟨[], hm, none, 0, rfl, RS.empty _ _ _⟩)
        · replace hm := hm.2 hb
          refine wskip ?_
          refine region ?_
          refine opsP T hS 2 (sp := []) (ks := [1, 2, 3, 7, 8, 32, 33]) (bs := [4]) (sy' := ⟨[(1, V (.slice a2 l_.length c2)), (2, V (.slice a3 picks.length c3)), (3, Pt 4 0), (7, V (.slice a110 out_109.length c111)), (8, I i_113), (32, V (.slice a110 out_109.length c111)), (33, I r122.1)], [(4, (24, [I o_.States, I o_.Kinds, I o_.Init, V (.slice a1 o_.Rows.length c1)]))]⟩) (by kernel_rfl) ?_
          intro a hS
          refine op1 (lit (E := 3) (col := 0) (T := tI) (vals := [.int .i64 r122.1]) (ys := [r122.1]) T hS (by kernel_rfl) (by kernel_rfl) (by kernel_rfl) (by kernel_rfl) (by exact ⟨rfl, trivial⟩) rfl (by kernel_rfl) (by kernel_rfl) (by kernel_rfl) (by kernel_rfl) ?_)
          intro b123 a w124 χ125 hE h126 hN hS
          clear hN
          replace hO := hO.mv hE rfl rfl
          replace h107 := h107.mv hE rfl
          replace h108 := h108.mv hE rfl
          replace h112 := h112.mv hE rfl rfl
          replace h114 := h114.mv hE rfl
          clear hE
          replace h126 := h126.rs0
          obtain ⟨hq, hm⟩ := hm
          obtain ⟨news, hN⟩ := h126.src
          refine op1 (append (E := 3) (T := tI) (col := 1007) (xs := out_109) T hS (by kernel_rfl) (by kernel_rfl) (by kernel_rfl) (by kernel_rfl) h112 hN (by kernel_rfl) (by kernel_rfl) (by kernel_rfl) (by kernel_rfl) hq ?_)
          intro a130 c131 a w127 χ128 hE h129 hS
          clear hq hN
          clear h112
          replace hO := hO.mv hE rfl rfl
          replace h107 := h107.mv hE rfl
          replace h108 := h108.mv hE rfl
          replace h114 := h114.mv hE rfl
          replace h126 := h126.mv hE rfl
          clear hE
          refine endP T hS (sp := []) (ks := [1, 2, 3, 7, 8]) (bs := [4]) (sy' := ⟨[(1, V (.slice a2 l_.length c2)), (2, V (.slice a3 picks.length c3)), (3, Pt 4 0), (7, V (.slice a130 (out_109 ++ [r122.1]).length c131)), (8, I i_113)], [(4, (24, [I o_.States, I o_.Kinds, I o_.Init, V (.slice a1 o_.Rows.length c1)]))]⟩) (by kernel_rfl) ?_
          intro a hS
          refine region (endP T hS (sp := []) (ks := [1, 2, 3, 7, 8]) (bs := [4]) (sy' := ⟨[(1, V (.slice a2 l_.length c2)), (2, V (.slice a3 picks.length c3)), (3, Pt 4 0), (7, V (.slice a130 (out_109 ++ [r122.1]).length c131)), (8, I (IntKind.i64.wrap (i_113 + 1)))], [(4, (24, [I o_.States, I o_.Kinds, I o_.Init, V (.slice a1 o_.Rows.length c1)]))]⟩) (by kernel_rfl) ?_)
          intro a hS
          exact ⟨⟨out_109 ++ [r122.1], IntKind.i64.wrap (i_113 + 1)⟩, ⟨ρ, _, a130, c131, hm.1, hS.sel [1, 2, 3, 7, 8] [4] (by kernel_rfl), hO, h107, h108, h129, h114⟩, hm.2⟩
      · replace hm := hm.2 hb
        refine wexit (by rfl) ?_
        exact ⟨ρ, _, out_109, a110, c111, hm, hS.sel [7] [] (by kernel_rfl), hO, h112⟩
  · rintro a w135 ⟨ρ, χ134, out_101, a102, c103, hm, hS, hO, h104⟩
    unfold VC21_J1 at hm
    refine regP T hS (sp := []) (ks := [6]) (bs := []) (sy' := ⟨[(6, V (.slice a102 out_101.length c103))], []⟩) (by kernel_rfl) ?_
    intro a hS
    refine wret ?_
    obtain ⟨χ105, hE, hF⟩ := h104.freeze (by decide)
    replace hS := hS.ev hE (xone_box (by kernel_rfl))
    replace hO := hO.mv hE rfl rfl
    have h106 := hF; clear hE hF
    exact fin T hS hO (fun c => c) rfl (r := [.slice a102 out_101.length c103]) (by kernel_rfl) (fun χ' hM hC => ⟨out_101, hm, a102, c103, rfl, h106.m0 hM⟩)
theorem C21 (k15 : S15) (v : ∀ (o_ : Api_Object) (l_ : List Api_Oper) (picks : List Api_Pick), preR2 o_ l_ picks → VC21 o_ l_ picks (fun r => r = ref28_States o_ l_ picks)) : S21 := by
  intro w χ o_ l_ picks a1 c1 a2 c2 a3 c3   hp h1 h2 h3
  refine (W21 k15 w χ o_ l_ picks a1 c1 a2 c2 a3 c3   _ (v o_ l_ picks hp) h1 h2 h3).mono ?_
  rintro _ _ _ _ ⟨r, rfl, h⟩
  exact h
def S22 : Prop := ∀ (w : World) (χ : Nat → Nat) (o_ : Api_Object) (l_ : List Api_Oper) (order : List Int) (a1 : Option Addr) (c1 : Nat) (a2 : Option Addr) (c2 : Nat) (a3 : Option Addr) (c3 : Nat), preO2 o_ l_ order → RS tApi_Row w χ a1 o_.Rows c1 → RS tApi_Oper w χ a2 l_ c2 → RS tI w χ a3 order c3 → Ret Try.prog 22 #[.agg #[.int .i64 o_.States, .int .i64 o_.Kinds, .int .i64 o_.Init, .slice a1 o_.Rows.length c1], .slice a2 l_.length c2, .slice a3 order.length c3] xnone w χ (fun w χ' v => ∃ (ra1 : Option Addr) (rc1 : Nat), v = .tuple #[.slice ra1 ((run_Fill o_ l_ order).1).length rc1, .int .i64 ((run_Fill o_ l_ order).2)] ∧ RS tApi_Pick w χ' ra1 ((run_Fill o_ l_ order).1) rc1)
theorem hb22 : hasBody Try.prog 22 = true := by kernel_rfl
/-- replevin/run.Fill -/
theorem W22 (k44 : S44) (k45 : S45) (k48 : S48) (k68 : S68) (w0 : World) (χ0 : Nat → Nat) (o_ : Api_Object) (l_ : List Api_Oper) (order : List Int) (a1 : Option Addr) (c1 : Nat) (a2 : Option Addr) (c2 : Nat) (a3 : Option Addr) (c3 : Nat) (Q : (List Api_Pick) × Int → Prop) (hm : VC22 o_ l_ order Q) (h1 : RS tApi_Row w0 χ0 a1 o_.Rows c1) (h2 : RS tApi_Oper w0 χ0 a2 l_ c2) (h3 : RS tI w0 χ0 a3 order c3) :
    Ret Try.prog 22 #[.agg #[.int .i64 o_.States, .int .i64 o_.Kinds, .int .i64 o_.Init, .slice a1 o_.Rows.length c1], .slice a2 l_.length c2, .slice a3 order.length c3] xnone w0 χ0 (fun w χ' v => ∃ r, Q r ∧ ∃ (ra1 : Option Addr) (rc1 : Nat), v = .tuple #[.slice ra1 r.1.length rc1, .int .i64 r.2] ∧ RS tApi_Pick w χ' ra1 r.1 rc1) := by
  unfold VC22 at hm
  replace hm := hm (h1.sm (by kernel_rfl))
  replace hm := hm (h2.sm (by kernel_rfl))
  replace hm := hm (h3.sm (by kernel_rfl))
  refine enter Try.func22 rfl (vals := [.agg #[.int .i64 o_.States, .int .i64 o_.Kinds, .int .i64 o_.Init, .slice a1 o_.Rows.length c1], .slice a2 l_.length c2, .slice a3 order.length c3]) (by kernel_rfl) ?_
  intro ρ a hS hO hM
  replace h1 := h1.m0 hM
  replace h2 := h2.m0 hM
  replace h3 := h3.m0 hM
  clear hM
  refine regM T hS (sp := []) (ks := [1, 2, 3]) (bs := [4]) (sy' := ⟨[(1, V (.slice a2 l_.length c2)), (2, V (.slice a3 order.length c3)), (3, Pt 4 0)], [(4, (24, [I o_.States, I o_.Kinds, I o_.Init, V (.slice a1 o_.Rows.length c1)]))]⟩) (by kernel_rfl) ?_
  intro ρ a w201 χ202 hS hE hr
  replace hO := hO.mv hE rfl rfl
  replace h1 := h1.mv hE rfl
  replace h2 := h2.mv hE rfl
  replace h3 := h3.mv hE rfl
  clear hE hr
  refine wseq ?_
  refine regO ?_
  refine opsP T hS 3 (sp := []) (ks := [1, 2, 3, 17, 19]) (bs := [4]) (sy' := ⟨[(1, V (.slice a2 l_.length c2)), (2, V (.slice a3 order.length c3)), (3, Pt 4 0), (17, V (.agg #[.int .i64 o_.States, .int .i64 o_.Kinds, .int .i64 o_.Init, .slice a1 o_.Rows.length c1])), (19, I o_.Init)], [(4, (24, [I o_.States, I o_.Kinds, I o_.Init, V (.slice a1 o_.Rows.length c1)]))]⟩) (by kernel_rfl) ?_
  intro a hS
  obtain ⟨hq, hm⟩ := hm
  refine op1 (call hS (by kernel_rfl) (by kernel_rfl) hb44 (by kernel_rfl) (fun _ _ => rfl) (k44 _ _ o_ o_.Init a1 c1 hq h1) ?_)
  intro v101 a w102 χ103 hE hp hS
  clear hq
  replace hO := hO.mv hE rfl rfl
  replace h1 := h1.mv hE rfl
  replace h2 := h2.mv hE rfl
  replace h3 := h3.mv hE rfl
  clear hE
  obtain ⟨r104, hr⟩ : ∃ r, run_may o_ o_.Init = r := ⟨_, rfl⟩
  replace hm := hm r104 hr
  rw [hr] at hp
  clear hr
  subst hp
  refine endP T hS (sp := []) (ks := [1, 2, 3, 8]) (bs := [4]) (sy' := ⟨[(1, V (.slice a2 l_.length c2)), (2, V (.slice a3 order.length c3)), (3, Pt 4 0), (8, I r104)], [(4, (24, [I o_.States, I o_.Kinds, I o_.Init, V (.slice a1 o_.Rows.length c1)]))]⟩) (by kernel_rfl) ?_
  intro a hS
  refine regP T hS (sp := []) (ks := [1, 2, 3, 8, 22]) (bs := [4]) (sy' := ⟨[(1, V (.slice a2 l_.length c2)), (2, V (.slice a3 order.length c3)), (3, Pt 4 0), (8, I r104), (22, B (r104 != 0))], [(4, (24, [I o_.States, I o_.Kinds, I o_.Init, V (.slice a1 o_.Rows.length c1)]))]⟩) (by kernel_rfl) ?_
  intro a hS
  refine wcond hS (b := (r104 != 0)) (by kernel_rfl) (fun hb => ?_) (fun hb => ?_)
  · replace hm := hm.1 hb
    refine regP T hS (sp := []) (ks := [6, 7]) (bs := []) (sy' := ⟨[(6, V (.slice none 0 0)), (7, I r104)], []⟩) (by kernel_rfl) ?_
    intro a hS
    refine wret ?_
    exact fin T hS hO (fun c => c) rfl (r := [.slice none 0 0, .int .i64 r104]) (by kernel_rfl) (fun χ' hM hC => ⟨([], r104), hm, none, 0, rfl, RS.empty _ _ _⟩)
  · replace hm := hm.2 hb
    refine wskip ?_
    refine regO ?_
    refine opsP T hS 4 (sp := []) (ks := [1, 2, 3, 24, 25, 27]) (bs := [4]) (sy' := ⟨[(1, V (.slice a2 l_.length c2)), (2, V (.slice a3 order.length c3)), (3, Pt 4 0), (24, V (.agg #[.int .i64 o_.States, .int .i64 o_.Kinds, .int .i64 o_.Init, .slice a1 o_.Rows.length c1])), (25, V (.slice a2 l_.length c2)), (27, I o_.Init)], [(4, (24, [I o_.States, I o_.Kinds, I o_.Init, V (.slice a1 o_.Rows.length c1)]))]⟩) (by kernel_rfl) ?_
    intro a hS
    refine op1 (call hS (by kernel_rfl) (by kernel_rfl) hb45 (by kernel_rfl) (fun _ _ => rfl) (k45 _ _ o_ l_ o_.Init a1 c1 a2 c2 2113 701 702 703 704 h1 h2) ?_)
    intro v105 a w106 χ107 hE hp hS
    replace hO := hO.mv hE rfl rfl
    replace h1 := h1.mv hE rfl
    replace h2 := h2.mv hE rfl
    replace h3 := h3.mv hE rfl
    clear hE
    obtain ⟨a109, c110, r113, a114, c115, b117, b118, b119, b120, hp, h111, h116, hc121, hc122, h112, hc123, hc124⟩ := hp
    obtain ⟨r108, hr⟩ : ∃ r, run_runner o_ l_ o_.Init = r := ⟨_, rfl⟩
    replace hm := hm r108 hr
    rw [hr] at h111 h116 hc121 hc123 hc124 h112
    clear hr
    subst hp
    replace hm := hm (h111.sm (by kernel_rfl))
    replace hm := hm (h116.sm (by kernel_rfl))
    replace hS := hS.newbox (id := 701) (t := 25) (cs := [V (.slice a109 r108.1.length c110)]) (by kernel_rfl) (by kernel_rfl) hc121 rfl
    replace hS := hS.newbox (id := 702) (t := 85) (cs := [V (.map (some r113))]) (by kernel_rfl) (by kernel_rfl) hc122 rfl
    replace hS := hS.newbox (id := 703) (t := 24) (cs := [I r108.2.2.1.States, I r108.2.2.1.Kinds, I r108.2.2.1.Init, V (.slice a114 r108.2.2.1.Rows.length c115)]) (by kernel_rfl) (by kernel_rfl) hc123 rfl
    replace hS := hS.newbox (id := 704) (t := 3) (cs := [I r108.2.2.2]) (by kernel_rfl) (by kernel_rfl) hc124 rfl
    replace hS := hS.convS (t := 28) (x := V (.func (.func 68) #[] #[.pointer (some ⟨b117, 0, none⟩), .pointer (some ⟨b118, 0, none⟩), .pointer (some ⟨b119, 0, none⟩), .pointer (some ⟨b120, 0, none⟩)])) (y := .f (.func 68) [] [.p 701 0, .p 702 0, .p 703 0, .p 704 0]) (by kernel_rfl) rfl
    generalize (upd (upd (upd (upd ρ 701 b117) 702 b118) 703 b119) 704 b120) = ρ at hS
    clear hc121 hc122 hc123 hc124
    refine endP T hS (sp := []) (ks := [1, 2, 3, 9]) (bs := [4, 701, 702, 703, 704]) (sy' := ⟨[(1, V (.slice a2 l_.length c2)), (2, V (.slice a3 order.length c3)), (3, Pt 4 0), (9, .f (.func 68) [] [.p 701 0, .p 702 0, .p 703 0, .p 704 0])], [(4, (24, [I o_.States, I o_.Kinds, I o_.Init, V (.slice a1 o_.Rows.length c1)])), (701, (25, [V (.slice a109 r108.1.length c110)])), (702, (85, [V (.map (some r113))])), (703, (24, [I r108.2.2.1.States, I r108.2.2.1.Kinds, I r108.2.2.1.Init, V (.slice a114 r108.2.2.1.Rows.length c115)])), (704, (3, [I r108.2.2.2]))]⟩) (by kernel_rfl) ?_
    intro a hS
    refine regP T hS (sp := []) (ks := [1, 2, 3, 9, 10]) (bs := [4, 701, 702, 703, 704]) (sy' := ⟨[(1, V (.slice a2 l_.length c2)), (2, V (.slice a3 order.length c3)), (3, Pt 4 0), (9, .f (.func 68) [] [.p 701 0, .p 702 0, .p 703 0, .p 704 0]), (10, I o_.Init)], [(4, (24, [I o_.States, I o_.Kinds, I o_.Init, V (.slice a1 o_.Rows.length c1)])), (701, (25, [V (.slice a109 r108.1.length c110)])), (702, (85, [V (.map (some r113))])), (703, (24, [I r108.2.2.1.States, I r108.2.2.1.Kinds, I r108.2.2.1.Init, V (.slice a114 r108.2.2.1.Rows.length c115)])), (704, (3, [I r108.2.2.2]))]⟩) (by kernel_rfl) ?_
    intro a hS
    refine regO ?_
    refine opsP T hS 2 (sp := []) (ks := [1, 2, 3, 9, 10, 32]) (bs := [4, 701, 702, 703, 704]) (sy' := ⟨[(1, V (.slice a2 l_.length c2)), (2, V (.slice a3 order.length c3)), (3, Pt 4 0), (9, .f (.func 68) [] [.p 701 0, .p 702 0, .p 703 0, .p 704 0]), (10, I o_.Init), (32, I ((order.length : Nat) : Int))], [(4, (24, [I o_.States, I o_.Kinds, I o_.Init, V (.slice a1 o_.Rows.length c1)])), (701, (25, [V (.slice a109 r108.1.length c110)])), (702, (85, [V (.map (some r113))])), (703, (24, [I r108.2.2.1.States, I r108.2.2.1.Kinds, I r108.2.2.1.Init, V (.slice a114 r108.2.2.1.Rows.length c115)])), (704, (3, [I r108.2.2.2]))]⟩) (by kernel_rfl) ?_
    intro a hS
    obtain ⟨hq, hm⟩ := hm
    refine op1 (make (E := 52) (kl := .i64) (kc := .i64) (col := 1007) (T := tApi_Pick) T (⟨0, 0⟩ : Api_Pick) hS (by kernel_rfl) (by kernel_rfl) (by kernel_rfl) (by kernel_rfl) (by kernel_rfl) (by kernel_rfl) hq.1 hq.2.1 (by have := hq.2.2; have e_ : ((tApi_Pick.bytes : Nat) : Int) = 16 := rfl; rw [e_]; omega) (by have := hq.2.2; omega) (fun _ _ => rfl) ?_)
    intro b125 a w126 χ127 hE h128 hN hS
    clear hq hN
    replace hO := hO.mv hE rfl rfl
    replace h1 := h1.mv hE rfl
    replace h2 := h2.mv hE rfl
    replace h3 := h3.mv hE rfl
    replace h112 := h112.mv hE rfl rfl
    replace h111 := h111.mv hE rfl
    replace h116 := h116.mv hE rfl
    clear hE
    replace hS := hS.conv (t := 33) (y := .slice (some ⟨b125, 0, none⟩) (List.replicate (0 : Int).toNat ((⟨0, 0⟩ : Api_Pick) : Api_Pick)).length ((order.length : Nat) : Int).toNat) (by kernel_rfl) (by rw [List.length_replicate])
    refine endP T hS (sp := []) (ks := [1, 2, 3, 9, 10, 11]) (bs := [4, 701, 702, 703, 704]) (sy' := ⟨[(1, V (.slice a2 l_.length c2)), (2, V (.slice a3 order.length c3)), (3, Pt 4 0), (9, .f (.func 68) [] [.p 701 0, .p 702 0, .p 703 0, .p 704 0]), (10, I o_.Init), (11, V (.slice (some ⟨b125, 0, none⟩) (List.replicate (0 : Int).toNat ((⟨0, 0⟩ : Api_Pick) : Api_Pick)).length ((order.length : Nat) : Int).toNat))], [(4, (24, [I o_.States, I o_.Kinds, I o_.Init, V (.slice a1 o_.Rows.length c1)])), (701, (25, [V (.slice a109 r108.1.length c110)])), (702, (85, [V (.map (some r113))])), (703, (24, [I r108.2.2.1.States, I r108.2.2.1.Kinds, I r108.2.2.1.Init, V (.slice a114 r108.2.2.1.Rows.length c115)])), (704, (3, [I r108.2.2.2]))]⟩) (by kernel_rfl) ?_
    intro a hS
    refine wcut (fun a w => ∃ (ρ : Nat → Nat) (χ : Nat → Nat) (out_129 : List Api_Pick) (a130 : Option Addr) (c131 : Nat), VC22_J1 Q out_129 ∧ St Try.f22.ntmps ⟨[(11, V (.slice a130 out_129.length c131))], []⟩ ρ a w χ ∧ Old w0 χ0 w χ ∧ OS tApi_Pick 52 w χ 1007 a130 out_129 c131) ?_ ?_
    · refine regP T hS (sp := []) (ks := [1, 3, 9, 10, 11, 34, 35, 36]) (bs := [4, 701, 702, 703, 704]) (sy' := ⟨[(1, V (.slice a2 l_.length c2)), (3, Pt 4 0), (9, .f (.func 68) [] [.p 701 0, .p 702 0, .p 703 0, .p 704 0]), (10, I o_.Init), (11, V (.slice (some ⟨b125, 0, none⟩) (List.replicate (0 : Int).toNat ((⟨0, 0⟩ : Api_Pick) : Api_Pick)).length ((order.length : Nat) : Int).toNat)), (34, V (.slice a3 order.length c3)), (35, I ((order.length : Nat) : Int)), (36, I 0)], [(4, (24, [I o_.States, I o_.Kinds, I o_.Init, V (.slice a1 o_.Rows.length c1)])), (701, (25, [V (.slice a109 r108.1.length c110)])), (702, (85, [V (.map (some r113))])), (703, (24, [I r108.2.2.1.States, I r108.2.2.1.Kinds, I r108.2.2.1.Init, V (.slice a114 r108.2.2.1.Rows.length c115)])), (704, (3, [I r108.2.2.2]))]⟩) (by kernel_rfl) ?_
      intro a hS
      refine wblock ?_
      obtain ⟨I1, μ1, hm0, hm⟩ := hm
      refine wloop (σ := Int × (List Api_Pick) × Int × (List (Int × Int)) × Int) (fun s a w => ∃ (ρ : Nat → Nat) (χ : Nat → Nat) (a138 : Option Addr) (c139 : Nat), I1 s.1 s.2.1 s.2.2.1 s.2.2.2.1 s.2.2.2.2 ∧ St Try.f22.ntmps ⟨[(1, V (.slice a2 l_.length c2)), (3, Pt 4 0), (9, .f (.func 68) [] [.p 701 0, .p 702 0, .p 703 0, .p 704 0]), (10, I s.1), (11, V (.slice a138 s.2.1.length c139)), (34, V (.slice a3 order.length c3)), (35, I ((order.length : Nat) : Int)), (36, I s.2.2.1)], [(4, (24, [I o_.States, I o_.Kinds, I o_.Init, V (.slice a1 o_.Rows.length c1)])), (701, (25, [V (.slice a109 r108.1.length c110)])), (702, (85, [V (.map (some r113))])), (703, (24, [I r108.2.2.1.States, I r108.2.2.1.Kinds, I r108.2.2.1.Init, V (.slice a114 r108.2.2.1.Rows.length c115)])), (704, (3, [I s.2.2.2.2]))]⟩ ρ a w χ ∧ Old w0 χ0 w χ ∧ RS tApi_Oper w χ a2 l_ c2 ∧ OS tApi_Pick 52 w χ 1007 a138 s.2.1 c139 ∧ RS tI w χ a3 order c3 ∧ RS tApi_Row w χ a1 o_.Rows c1 ∧ RS tApi_Oper w χ a109 r108.1 c110 ∧ OM kI tI false w χ 2113 r113 s.2.2.2.1 ∧ RS tApi_Row w χ a114 r108.2.2.1.Rows c115) (fun s => μ1 s.1 s.2.1 s.2.2.1 s.2.2.2.1 s.2.2.2.2) (⟨o_.Init, List.replicate (0 : Int).toNat ((⟨0, 0⟩ : Api_Pick) : Api_Pick), 0, r108.2.1, r108.2.2.2⟩) ?_ ?_
      · exact ⟨ρ, _, (some ⟨b125, 0, none⟩), ((order.length : Nat) : Int).toNat, hm0, hS.sel [1, 3, 9, 10, 11, 34, 35, 36] [4, 701, 702, 703, 704] (by kernel_rfl), hO, h2, h128, h3, h1, h111, h112, h116⟩
      · rintro ⟨state_136, out_137, x_142, x_145, x_148⟩ a w198 ⟨ρ, χ197, a138, c139, hI, hS, hO, h135, h140, h141, h143, h144, h146, h147⟩
        replace hm := hm state_136 out_137 x_142 x_145 x_148 hI
        clear hI hm0
        refine regP T hS (sp := []) (ks := [1, 3, 9, 10, 11, 34, 35, 36, 37]) (bs := [4, 701, 702, 703, 704]) (sy' := ⟨[(1, V (.slice a2 l_.length c2)), (3, Pt 4 0), (9, .f (.func 68) [] [.p 701 0, .p 702 0, .p 703 0, .p 704 0]), (10, I state_136), (11, V (.slice a138 out_137.length c139)), (34, V (.slice a3 order.length c3)), (35, I ((order.length : Nat) : Int)), (36, I x_142), (37, B (decide (x_142 < ((order.length : Nat) : Int))))], [(4, (24, [I o_.States, I o_.Kinds, I o_.Init, V (.slice a1 o_.Rows.length c1)])), (701, (25, [V (.slice a109 r108.1.length c110)])), (702, (85, [V (.map (some r113))])), (703, (24, [I r108.2.2.1.States, I r108.2.2.1.Kinds, I r108.2.2.1.Init, V (.slice a114 r108.2.2.1.Rows.length c115)])), (704, (3, [I x_148]))]⟩) (by kernel_rfl) ?_
        intro a hS
        refine wseq ?_
        refine wcond hS (b := decide (x_142 < ((order.length : Nat) : Int))) (by kernel_rfl) (fun hb => ?_) (fun hb => ?_)
        · replace hm := hm.1 hb
          refine wskip ?_
          refine wseq ?_
          refine wblock ?_
          refine regO ?_
          obtain ⟨hq, hm⟩ := hm
          refine op1 (index (e := 3) (k := .i64) T hS (by kernel_rfl) (by kernel_rfl) (by kernel_rfl) (by kernel_rfl) h141 (by kernel_rfl) (by kernel_rfl) hq.1 hq.2 ?_)
          intro A149 a h150 hS
          clear hq
          refine op1 (load1 T hS (by kernel_rfl) (by kernel_rfl) (by kernel_rfl) h150 rfl (by kernel_rfl) ?_)
          intro v151 a hv hS
          cases hv
          refine endP T hS (sp := []) (ks := [1, 3, 9, 10, 11, 13, 34, 35, 36]) (bs := [4, 701, 702, 703, 704]) (sy' := ⟨[(1, V (.slice a2 l_.length c2)), (3, Pt 4 0), (9, .f (.func 68) [] [.p 701 0, .p 702 0, .p 703 0, .p 704 0]), (10, I state_136), (11, V (.slice a138 out_137.length c139)), (13, I (gi order x_142)), (34, V (.slice a3 order.length c3)), (35, I ((order.length : Nat) : Int)), (36, I x_142)], [(4, (24, [I o_.States, I o_.Kinds, I o_.Init, V (.slice a1 o_.Rows.length c1)])), (701, (25, [V (.slice a109 r108.1.length c110)])), (702, (85, [V (.map (some r113))])), (703, (24, [I r108.2.2.1.States, I r108.2.2.1.Kinds, I r108.2.2.1.Init, V (.slice a114 r108.2.2.1.Rows.length c115)])), (704, (3, [I x_148]))]⟩) (by kernel_rfl) ?_
          intro a hS
          refine regM T hS (sp := []) (ks := [1, 3, 9, 10, 11, 13, 14, 34, 35, 36]) (bs := [4, 15, 701, 702, 703, 704]) (sy' := ⟨[(1, V (.slice a2 l_.length c2)), (3, Pt 4 0), (9, .f (.func 68) [] [.p 701 0, .p 702 0, .p 703 0, .p 704 0]), (10, I state_136), (11, V (.slice a138 out_137.length c139)), (13, I (gi order x_142)), (14, Pt 15 0), (34, V (.slice a3 order.length c3)), (35, I ((order.length : Nat) : Int)), (36, I x_142)], [(4, (24, [I o_.States, I o_.Kinds, I o_.Init, V (.slice a1 o_.Rows.length c1)])), (15, (52, [I (gi order x_142), I 0])), (701, (25, [V (.slice a109 r108.1.length c110)])), (702, (85, [V (.map (some r113))])), (703, (24, [I r108.2.2.1.States, I r108.2.2.1.Kinds, I r108.2.2.1.Init, V (.slice a114 r108.2.2.1.Rows.length c115)])), (704, (3, [I x_148]))]⟩) (by kernel_rfl) ?_
          intro ρ a w195 χ196 hS hE hr
          replace hO := hO.mv hE rfl rfl
          replace h135 := h135.mv hE rfl
          replace h140 := h140.mv hE rfl rfl
          replace h141 := h141.mv hE rfl
          replace h143 := h143.mv hE rfl
          replace h144 := h144.mv hE rfl
          replace h146 := h146.mv hE rfl rfl
          replace h147 := h147.mv hE rfl
          clear hE hr
          refine wcut (fun a w => ∃ (ρ : Nat → Nat) (χ : Nat → Nat) (out_153 : List Api_Pick) (x_159 : Int) (a154 : Option Addr) (c155 : Nat), VC22_J2 order Q r108 I1 μ1 state_136 out_137 x_142 x_145 x_148 out_153 x_159 ∧ St Try.f22.ntmps ⟨[(1, V (.slice a2 l_.length c2)), (3, Pt 4 0), (9, .f (.func 68) [] [.p 701 0, .p 702 0, .p 703 0, .p 704 0]), (11, V (.slice a154 out_153.length c155)), (14, Pt 15 0), (34, V (.slice a3 order.length c3)), (35, I ((order.length : Nat) : Int)), (36, I x_142)], [(4, (24, [I o_.States, I o_.Kinds, I o_.Init, V (.slice a1 o_.Rows.length c1)])), (15, (52, [I (gi order x_142), I x_159])), (701, (25, [V (.slice a109 r108.1.length c110)])), (702, (85, [V (.map (some r113))])), (703, (24, [I r108.2.2.1.States, I r108.2.2.1.Kinds, I r108.2.2.1.Init, V (.slice a114 r108.2.2.1.Rows.length c115)])), (704, (3, [I x_148]))]⟩ ρ a w χ ∧ Old w0 χ0 w χ ∧ RS tApi_Oper w χ a2 l_ c2 ∧ OS tApi_Pick 52 w χ 1007 a154 out_153 c155 ∧ RS tI w χ a3 order c3 ∧ RS tApi_Row w χ a1 o_.Rows c1 ∧ RS tApi_Oper w χ a109 r108.1 c110 ∧ OM kI tI false w χ 2113 r113 x_145 ∧ RS tApi_Row w χ a114 r108.2.2.1.Rows c115) ?_ ?_
          · refine regP T hS (sp := [44]) (ks := [1, 3, 9, 10, 11, 13, 14, 34, 35, 36, 49]) (bs := [4, 15, 701, 702, 703, 704]) (sy' := ⟨[(1, V (.slice a2 l_.length c2)), (3, Pt 4 0), (9, .f (.func 68) [] [.p 701 0, .p 702 0, .p 703 0, .p 704 0]), (10, I state_136), (11, V (.slice a138 out_137.length c139)), (13, I (gi order x_142)), (14, Pt 15 0), (34, V (.slice a3 order.length c3)), (35, I ((order.length : Nat) : Int)), (36, I x_142), (49, B ((decide ((gi order x_142) ≥ 0)) && (decide ((gi order x_142) < ((l_.length : Nat) : Int)))))], [(4, (24, [I o_.States, I o_.Kinds, I o_.Init, V (.slice a1 o_.Rows.length c1)])), (15, (52, [I (gi order x_142), I 0])), (701, (25, [V (.slice a109 r108.1.length c110)])), (702, (85, [V (.map (some r113))])), (703, (24, [I r108.2.2.1.States, I r108.2.2.1.Kinds, I r108.2.2.1.Init, V (.slice a114 r108.2.2.1.Rows.length c115)])), (704, (3, [I x_148]))]⟩) (by kernel_rfl) ?_
            intro a hS
            refine wcond hS (b := ((decide ((gi order x_142) ≥ 0)) && (decide ((gi order x_142) < ((l_.length : Nat) : Int))))) (by kernel_rfl) (fun hb => ?_) (fun hb => ?_)
            · replace hm := hm.1 hb
              refine drawn [4, 701, 703] mixed hS ?_
              intro w181 hS hE hD hH
              replace hO := hO.mv hE rfl rfl
              replace h135 := h135.mv hE rfl
              replace h140 := h140.mv hE rfl rfl
              replace h141 := h141.mv hE rfl
              replace h143 := h143.mv hE rfl
              replace h144 := h144.mv hE rfl
              replace h146 := h146.mv hE rfl rfl
              replace h147 := h147.mv hE rfl
              clear hE
              refine take T [0, 1, 2, 3] [4, 701, 703] [1, 3, 9, 11, 14, 34, 35, 36, 51, 52, 53, 54] hS (by kernel_rfl) (by kernel_rfl) (by kernel_rfl) hH (listed' := #[true, true, true, true, false, false, false, false, false, false, false, false, false, false]) (fuel := 10) (sy' := ⟨[(1, V (.slice a2 l_.length c2)), (3, Pt 4 0), (9, .f (.func 68) [] [.p 701 0, .p 702 0, .p 703 0, .p 704 0]), (11, V (.slice a138 out_137.length c139)), (14, Pt 15 0), (34, V (.slice a3 order.length c3)), (35, I ((order.length : Nat) : Int)), (36, I x_142), (51, V (.agg #[.int .i64 o_.States, .int .i64 o_.Kinds, .int .i64 o_.Init, .slice a1 o_.Rows.length c1])), (52, I state_136), (53, V (.slice a2 l_.length c2)), (54, I (gi order x_142))], [(4, (24, [I o_.States, I o_.Kinds, I o_.Init, V (.slice a1 o_.Rows.length c1)])), (15, (52, [I (gi order x_142), I 0])), (701, (25, [V (.slice a109 r108.1.length c110)])), (702, (85, [V (.map (some r113))])), (703, (24, [I r108.2.2.1.States, I r108.2.2.1.Kinds, I r108.2.2.1.Init, V (.slice a114 r108.2.2.1.Rows.length c115)])), (704, (3, [I x_148]))]⟩) (by kernel_rfl) (by rfl) ?_
              intro a hS
              obtain ⟨hq, hm⟩ := hm
              refine dindex (e := 54) (k := .i64) T 4 hS (by kernel_rfl) (by kernel_rfl) (by kernel_rfl) (by rfl) (by kernel_rfl) hH (by kernel_rfl) (by kernel_rfl) h135 (by kernel_rfl) (by kernel_rfl) hq.1 hq.2 ?_
              intro A182 a h183 hS
              clear hq
              have h183b := h183.here
              refine dfieldA (off := 1) (fsz := 1) (ft := 3) (TF := tI) (y := (gi l_ (gi order x_142)).Kind) 5 T hS (by kernel_rfl) (by kernel_rfl) (by kernel_rfl) (by rfl) (by kernel_rfl) hH (by kernel_rfl) h183 (by kernel_rfl) (by kernel_rfl) (by kernel_rfl) (fun cs h => Api_Oper_f1 h) ?_
              intro A184 a h185 hbl hS
              have h185b := h183b
              rw [← hbl] at h185b
              clear hbl
              refine dload1 T 6 hS (by kernel_rfl) (by kernel_rfl) (by kernel_rfl) (by rfl) (by kernel_rfl) hH (by kernel_rfl) h185 h185b rfl (by kernel_rfl) ?_
              intro v186 a hv hS
              cases hv
              refine only 7 (by kernel_rfl) (by rfl) (call hS (by kernel_rfl) (by kernel_rfl) hb48 (by kernel_rfl) (fun _ _ => rfl) (k48 _ _ o_ state_136 ((gi l_ (gi order x_142)).Kind) a1 c1 h143) ?_)
              intro v187 a w188 χ189 hE hp hS
              replace hO := hO.mv hE rfl rfl
              replace hD := hD.ev hE rfl
              replace h135 := h135.mv hE rfl
              replace h140 := h140.mv hE rfl rfl
              replace h141 := h141.mv hE rfl
              replace h143 := h143.mv hE rfl
              replace h144 := h144.mv hE rfl
              replace h146 := h146.mv hE rfl rfl
              replace h147 := h147.mv hE rfl
              replace h183 := h183.mv hE rfl
              replace h185 := h185.mv hE rfl
              clear hE
              obtain ⟨r190, hr⟩ : ∃ r, object_Move o_ state_136 ((gi l_ (gi order x_142)).Kind) = r := ⟨_, rfl⟩
              replace hm := hm r190 hr
              rw [hr] at hp
              clear hr
              subst hp
              replace hS := hS.sel [1, 3, 9, 11, 14, 34, 35, 36, 51, 52, 53, 54, 55, 56, 57, 58] [4, 15, 701, 702, 703, 704] (sy' := ⟨[(1, V (.slice a2 l_.length c2)), (3, Pt 4 0), (9, .f (.func 68) [] [.p 701 0, .p 702 0, .p 703 0, .p 704 0]), (11, V (.slice a138 out_137.length c139)), (14, Pt 15 0), (34, V (.slice a3 order.length c3)), (35, I ((order.length : Nat) : Int)), (36, I x_142), (51, V (.agg #[.int .i64 o_.States, .int .i64 o_.Kinds, .int .i64 o_.Init, .slice a1 o_.Rows.length c1])), (52, I state_136), (53, V (.slice a2 l_.length c2)), (54, I (gi order x_142)), (55, V (.pointer (some A182))), (56, V (.pointer (some A184))), (57, I ((gi l_ (gi order x_142)).Kind)), (58, V (.tuple #[.int .i64 r190.1, .int .i64 r190.2.1, .bool r190.2.2]))], [(4, (24, [I o_.States, I o_.Kinds, I o_.Init, V (.slice a1 o_.Rows.length c1)])), (15, (52, [I (gi order x_142), I 0])), (701, (25, [V (.slice a109 r108.1.length c110)])), (702, (85, [V (.map (some r113))])), (703, (24, [I r108.2.2.1.States, I r108.2.2.1.Kinds, I r108.2.2.1.Init, V (.slice a114 r108.2.2.1.Rows.length c115)])), (704, (3, [I x_148]))]⟩) (by kernel_rfl)
              refine andH (Hold.of hS (bks := [4, 701, 703]) (by kernel_rfl) hD) ?_
              intro hH
              refine take T [8, 9, 10, 11, 12] [4, 701, 703] [1, 3, 9, 11, 14, 34, 35, 36, 60, 62] hS (by kernel_rfl) (by kernel_rfl) (by kernel_rfl) hH (listed' := #[true, true, true, true, true, true, true, true, true, true, true, true, true, false]) (fuel := 1) (sy' := ⟨[(1, V (.slice a2 l_.length c2)), (3, Pt 4 0), (9, .f (.func 68) [] [.p 701 0, .p 702 0, .p 703 0, .p 704 0]), (11, V (.slice a138 out_137.length c139)), (14, Pt 15 0), (34, V (.slice a3 order.length c3)), (35, I ((order.length : Nat) : Int)), (36, I x_142), (60, I r190.2.1), (62, Pt 15 1)], [(4, (24, [I o_.States, I o_.Kinds, I o_.Init, V (.slice a1 o_.Rows.length c1)])), (15, (52, [I (gi order x_142), I 0])), (701, (25, [V (.slice a109 r108.1.length c110)])), (702, (85, [V (.map (some r113))])), (703, (24, [I r108.2.2.1.States, I r108.2.2.1.Kinds, I r108.2.2.1.Init, V (.slice a114 r108.2.2.1.Rows.length c115)])), (704, (3, [I x_148]))]⟩) (by kernel_rfl) (by rfl) ?_
              intro a hS
              replace hS := hS.sel [1, 3, 9, 11, 14, 34, 35, 36, 60, 62] [4, 15, 701, 702, 703, 704] (sy' := ⟨[(1, V (.slice a2 l_.length c2)), (3, Pt 4 0), (9, .f (.func 68) [] [.p 701 0, .p 702 0, .p 703 0, .p 704 0]), (11, V (.slice a138 out_137.length c139)), (14, Pt 15 0), (34, V (.slice a3 order.length c3)), (35, I ((order.length : Nat) : Int)), (36, I x_142), (60, I r190.2.1), (62, Pt 15 1)], [(4, (24, [I o_.States, I o_.Kinds, I o_.Init, V (.slice a1 o_.Rows.length c1)])), (15, (52, [I (gi order x_142), I 0])), (701, (25, [V (.slice a109 r108.1.length c110)])), (702, (85, [V (.map (some r113))])), (703, (24, [I r108.2.2.1.States, I r108.2.2.1.Kinds, I r108.2.2.1.Init, V (.slice a114 r108.2.2.1.Rows.length c115)])), (704, (3, [I x_148]))]⟩) (by kernel_rfl)
              refine only 13 (by kernel_rfl) (by rfl) (store1 T hS (by kernel_rfl) (by kernel_rfl) (sy' := ⟨[(1, V (.slice a2 l_.length c2)), (3, Pt 4 0), (9, .f (.func 68) [] [.p 701 0, .p 702 0, .p 703 0, .p 704 0]), (11, V (.slice a138 out_137.length c139)), (14, Pt 15 0), (34, V (.slice a3 order.length c3)), (35, I ((order.length : Nat) : Int)), (36, I x_142), (60, I r190.2.1), (62, Pt 15 1)], [(15, (52, [I (gi order x_142), I r190.2.1])), (4, (24, [I o_.States, I o_.Kinds, I o_.Init, V (.slice a1 o_.Rows.length c1)])), (15, (52, [I (gi order x_142), I 0])), (701, (25, [V (.slice a109 r108.1.length c110)])), (702, (85, [V (.map (some r113))])), (703, (24, [I r108.2.2.1.States, I r108.2.2.1.Kinds, I r108.2.2.1.Init, V (.slice a114 r108.2.2.1.Rows.length c115)])), (704, (3, [I x_148]))]⟩) (by kernel_rfl) ?_)
              intro a w191 χ192 hS hE
              replace hO := hO.mv hE rfl rfl
              replace hD := hD.ev hE rfl
              replace h135 := h135.mv hE rfl
              replace h140 := h140.mv hE rfl rfl
              replace h141 := h141.mv hE rfl
              replace h143 := h143.mv hE rfl
              replace h144 := h144.mv hE rfl
              replace h146 := h146.mv hE rfl rfl
              replace h147 := h147.mv hE rfl
              replace h183 := h183.mv hE rfl
              replace h185 := h185.mv hE rfl
              clear hE
              replace hS := hS.sel [1, 3, 9, 11, 14, 34, 35, 36, 60, 62] [4, 15, 701, 702, 703, 704] (sy' := ⟨[(1, V (.slice a2 l_.length c2)), (3, Pt 4 0), (9, .f (.func 68) [] [.p 701 0, .p 702 0, .p 703 0, .p 704 0]), (11, V (.slice a138 out_137.length c139)), (14, Pt 15 0), (34, V (.slice a3 order.length c3)), (35, I ((order.length : Nat) : Int)), (36, I x_142), (60, I r190.2.1), (62, Pt 15 1)], [(4, (24, [I o_.States, I o_.Kinds, I o_.Init, V (.slice a1 o_.Rows.length c1)])), (15, (52, [I (gi order x_142), I r190.2.1])), (701, (25, [V (.slice a109 r108.1.length c110)])), (702, (85, [V (.map (some r113))])), (703, (24, [I r108.2.2.1.States, I r108.2.2.1.Kinds, I r108.2.2.1.Init, V (.slice a114 r108.2.2.1.Rows.length c115)])), (704, (3, [I x_148]))]⟩) (by kernel_rfl)
              refine andH (Hold.of hS (bks := [4, 701, 703]) (by kernel_rfl) hD) ?_
              intro hH
              refine drawnDone (by kernel_rfl) ?_
              clear hD hH
              replace hS := hS.sel [1, 3, 9, 11, 14, 34, 35, 36] [4, 15, 701, 702, 703, 704] (sy' := ⟨[(1, V (.slice a2 l_.length c2)), (3, Pt 4 0), (9, .f (.func 68) [] [.p 701 0, .p 702 0, .p 703 0, .p 704 0]), (11, V (.slice a138 out_137.length c139)), (14, Pt 15 0), (34, V (.slice a3 order.length c3)), (35, I ((order.length : Nat) : Int)), (36, I x_142)], [(4, (24, [I o_.States, I o_.Kinds, I o_.Init, V (.slice a1 o_.Rows.length c1)])), (15, (52, [I (gi order x_142), I r190.2.1])), (701, (25, [V (.slice a109 r108.1.length c110)])), (702, (85, [V (.map (some r113))])), (703, (24, [I r108.2.2.1.States, I r108.2.2.1.Kinds, I r108.2.2.1.Init, V (.slice a114 r108.2.2.1.Rows.length c115)])), (704, (3, [I x_148]))]⟩) (by kernel_rfl)
              exact ⟨ρ, _, out_137, r190.2.1, a138, c139, hm, hS.sel [1, 3, 9, 11, 14, 34, 35, 36] [4, 15, 701, 702, 703, 704] (by kernel_rfl), hO, h135, h140, h141, h143, h144, h146, h147⟩
            · replace hm := hm.2 hb
              refine wskip ?_
              exact ⟨ρ, _, out_137, 0, a138, c139, hm, hS.sel [1, 3, 9, 11, 14, 34, 35, 36] [4, 15, 701, 702, 703, 704] (by kernel_rfl), hO, h135, h140, h141, h143, h144, h146, h147⟩
          · rintro a w194 ⟨ρ, χ193, out_153, x_159, a154, c155, hm, hS, hO, h152, h156, h157, h158, h160, h161, h162⟩
            unfold VC22_J2 at hm
            refine regO ?_
            refine opsP T hS 2 (sp := []) (ks := [1, 3, 9, 11, 14, 34, 35, 36, 64, 65]) (bs := [4, 15, 701, 702, 703, 704]) (sy' := ⟨[(1, V (.slice a2 l_.length c2)), (3, Pt 4 0), (9, .f (.func 68) [] [.p 701 0, .p 702 0, .p 703 0, .p 704 0]), (11, V (.slice a154 out_153.length c155)), (14, Pt 15 0), (34, V (.slice a3 order.length c3)), (35, I ((order.length : Nat) : Int)), (36, I x_142), (64, .f (.func 68) [] [.p 701 0, .p 702 0, .p 703 0, .p 704 0]), (65, V (.agg #[.int .i64 (gi order x_142), .int .i64 x_159]))], [(4, (24, [I o_.States, I o_.Kinds, I o_.Init, V (.slice a1 o_.Rows.length c1)])), (15, (52, [I (gi order x_142), I x_159])), (701, (25, [V (.slice a109 r108.1.length c110)])), (702, (85, [V (.map (some r113))])), (703, (24, [I r108.2.2.1.States, I r108.2.2.1.Kinds, I r108.2.2.1.Init, V (.slice a114 r108.2.2.1.Rows.length c115)])), (704, (3, [I x_148]))]⟩) (by kernel_rfl) ?_
            intro a hS
            refine op1 (callCR (fi := []) (cp := [.p 701 0, .p 702 0, .p 703 0, .p 704 0]) hS (by kernel_rfl) (by kernel_rfl) hb68 (by kernel_rfl) (by kernel_rfl) (k68 _ _ (⟨gi order x_142, x_159⟩ : Api_Pick) r108.1 x_145 r108.2.2.1 x_148 a109 c110 r113 2113 a114 c115 (ρ 701) 701 (ρ 702) 702 (ρ 703) 703 (ρ 704) 704 h160 h161 h162 (hS.cell (id := 701) (t := 25) (cs := [V (.slice a109 r108.1.length c110)]) (by kernel_rfl)) (hS.cell (id := 702) (t := 85) (cs := [V (.map (some r113))]) (by kernel_rfl)) (hS.cell (id := 703) (t := 24) (cs := [I r108.2.2.1.States, I r108.2.2.1.Kinds, I r108.2.2.1.Init, V (.slice a114 r108.2.2.1.Rows.length c115)]) (by kernel_rfl)) (hS.cell (id := 704) (t := 3) (cs := [I x_148]) (by kernel_rfl)) ⟨by decide, by decide⟩) ?_)
            intro v163 a w164 χ165 hE hp hS
            clear h161
            replace hO := hO.mv hE rfl rfl
            replace h152 := h152.mv hE rfl
            replace h156 := h156.mv hE rfl rfl
            replace h157 := h157.mv hE rfl
            replace h158 := h158.mv hE rfl
            replace h160 := h160.mv hE rfl
            replace h162 := h162.mv hE rfl
            clear hE
            obtain ⟨hp, hc168, hc169, h167, hc170, hc171⟩ := hp
            obtain ⟨r166, hr⟩ : ∃ r, run_runner_1 (⟨gi order x_142, x_159⟩ : Api_Pick) r108.1 x_145 r108.2.2.1 x_148 = r := ⟨_, rfl⟩
            replace hm := hm r166 hr
            rw [hr] at hp hc171 h167
            clear hr
            subst hp
            replace hS := hS.addbox (id := 701) (t := 25) (cs := [V (.slice a109 r108.1.length c110)]) (by kernel_rfl) hc168
            replace hS := hS.addbox (id := 702) (t := 85) (cs := [V (.map (some r113))]) (by kernel_rfl) hc169
            replace hS := hS.addbox (id := 703) (t := 24) (cs := [I r108.2.2.1.States, I r108.2.2.1.Kinds, I r108.2.2.1.Init, V (.slice a114 r108.2.2.1.Rows.length c115)]) (by kernel_rfl) hc170
            replace hS := hS.addbox (id := 704) (t := 3) (cs := [I r166.2.2.2]) (by kernel_rfl) hc171
            clear hc168 hc169 hc170 hc171
            refine endP T hS (sp := []) (ks := [1, 3, 9, 11, 14, 15, 16, 34, 35, 36]) (bs := [4, 15, 701, 702, 703, 704]) (sy' := ⟨[(1, V (.slice a2 l_.length c2)), (3, Pt 4 0), (9, .f (.func 68) [] [.p 701 0, .p 702 0, .p 703 0, .p 704 0]), (11, V (.slice a154 out_153.length c155)), (14, Pt 15 0), (15, I r166.1), (16, I r166.2.1), (34, V (.slice a3 order.length c3)), (35, I ((order.length : Nat) : Int)), (36, I x_142)], [(4, (24, [I o_.States, I o_.Kinds, I o_.Init, V (.slice a1 o_.Rows.length c1)])), (15, (52, [I (gi order x_142), I x_159])), (701, (25, [V (.slice a109 r108.1.length c110)])), (702, (85, [V (.map (some r113))])), (703, (24, [I r108.2.2.1.States, I r108.2.2.1.Kinds, I r108.2.2.1.Init, V (.slice a114 r108.2.2.1.Rows.length c115)])), (704, (3, [I r166.2.2.2]))]⟩) (by kernel_rfl) ?_
            intro a hS
            refine wseq ?_
            refine regP T hS (sp := []) (ks := [1, 3, 9, 11, 14, 15, 16, 34, 35, 36, 70]) (bs := [4, 15, 701, 702, 703, 704]) (sy' := ⟨[(1, V (.slice a2 l_.length c2)), (3, Pt 4 0), (9, .f (.func 68) [] [.p 701 0, .p 702 0, .p 703 0, .p 704 0]), (11, V (.slice a154 out_153.length c155)), (14, Pt 15 0), (15, I r166.1), (16, I r166.2.1), (34, V (.slice a3 order.length c3)), (35, I ((order.length : Nat) : Int)), (36, I x_142), (70, B (r166.2.1 != 0))], [(4, (24, [I o_.States, I o_.Kinds, I o_.Init, V (.slice a1 o_.Rows.length c1)])), (15, (52, [I (gi order x_142), I x_159])), (701, (25, [V (.slice a109 r108.1.length c110)])), (702, (85, [V (.map (some r113))])), (703, (24, [I r108.2.2.1.States, I r108.2.2.1.Kinds, I r108.2.2.1.Init, V (.slice a114 r108.2.2.1.Rows.length c115)])), (704, (3, [I r166.2.2.2]))]⟩) (by kernel_rfl) ?_
            intro a hS
            refine wcond hS (b := (r166.2.1 != 0)) (by kernel_rfl) (fun hb => ?_) (fun hb => ?_)
            · replace hm := hm.1 hb
              refine regP T hS (sp := []) (ks := [6, 7]) (bs := []) (sy' := ⟨[(6, V (.slice none 0 0)), (7, I r166.2.1)], []⟩) (by kernel_rfl) ?_
              intro a hS
              refine wret ?_
              exact fin T hS hO (fun c => c) rfl (r := [.slice none 0 0, .int .i64 r166.2.1]) (by kernel_rfl) (fun χ' hM hC => ⟨([], r166.2.1), hm, none, 0, rfl, RS.empty _ _ _⟩)
            · replace hm := hm.2 hb
              refine wskip ?_
              refine regP T hS (sp := []) (ks := [1, 3, 9, 10, 11, 14, 34, 35, 36]) (bs := [4, 15, 701, 702, 703, 704]) (sy' := ⟨[(1, V (.slice a2 l_.length c2)), (3, Pt 4 0), (9, .f (.func 68) [] [.p 701 0, .p 702 0, .p 703 0, .p 704 0]), (10, I r166.1), (11, V (.slice a154 out_153.length c155)), (14, Pt 15 0), (34, V (.slice a3 order.length c3)), (35, I ((order.length : Nat) : Int)), (36, I x_142)], [(4, (24, [I o_.States, I o_.Kinds, I o_.Init, V (.slice a1 o_.Rows.length c1)])), (15, (52, [I (gi order x_142), I x_159])), (701, (25, [V (.slice a109 r108.1.length c110)])), (702, (85, [V (.map (some r113))])), (703, (24, [I r108.2.2.1.States, I r108.2.2.1.Kinds, I r108.2.2.1.Init, V (.slice a114 r108.2.2.1.Rows.length c115)])), (704, (3, [I r166.2.2.2]))]⟩) (by kernel_rfl) ?_
              intro a hS
              refine region ?_
              refine opsP T hS 2 (sp := []) (ks := [1, 3, 9, 10, 11, 34, 35, 36, 73, 74]) (bs := [4, 701, 702, 703, 704]) (sy' := ⟨[(1, V (.slice a2 l_.length c2)), (3, Pt 4 0), (9, .f (.func 68) [] [.p 701 0, .p 702 0, .p 703 0, .p 704 0]), (10, I r166.1), (11, V (.slice a154 out_153.length c155)), (34, V (.slice a3 order.length c3)), (35, I ((order.length : Nat) : Int)), (36, I x_142), (73, V (.slice a154 out_153.length c155)), (74, V (.agg #[.int .i64 (gi order x_142), .int .i64 x_159]))], [(4, (24, [I o_.States, I o_.Kinds, I o_.Init, V (.slice a1 o_.Rows.length c1)])), (701, (25, [V (.slice a109 r108.1.length c110)])), (702, (85, [V (.map (some r113))])), (703, (24, [I r108.2.2.1.States, I r108.2.2.1.Kinds, I r108.2.2.1.Init, V (.slice a114 r108.2.2.1.Rows.length c115)])), (704, (3, [I r166.2.2.2]))]⟩) (by kernel_rfl) ?_
              intro a hS
              refine op1 (lit (E := 52) (col := 0) (T := tApi_Pick) (vals := [.agg #[.int .i64 (gi order x_142), .int .i64 x_159]]) (ys := [(⟨gi order x_142, x_159⟩ : Api_Pick)]) T hS (by kernel_rfl) (by kernel_rfl) (by kernel_rfl) (by kernel_rfl) (by exact ⟨rfl, trivial⟩) rfl (by kernel_rfl) (by kernel_rfl) (by kernel_rfl) (by kernel_rfl) ?_)
              intro b172 a w173 χ174 hE h175 hN hS
              clear hN
              replace hO := hO.mv hE rfl rfl
              replace h152 := h152.mv hE rfl
              replace h156 := h156.mv hE rfl rfl
              replace h157 := h157.mv hE rfl
              replace h158 := h158.mv hE rfl
              replace h160 := h160.mv hE rfl
              replace h162 := h162.mv hE rfl
              replace h167 := h167.mv hE rfl rfl
              clear hE
              replace h175 := h175.rs0
              obtain ⟨hq, hm⟩ := hm
              obtain ⟨news, hN⟩ := h175.src
              refine op1 (append (E := 52) (T := tApi_Pick) (col := 1007) (xs := out_153) T hS (by kernel_rfl) (by kernel_rfl) (by kernel_rfl) (by kernel_rfl) h156 hN (by kernel_rfl) (by kernel_rfl) (by kernel_rfl) (by kernel_rfl) hq ?_)
              intro a179 c180 a w176 χ177 hE h178 hS
              clear hq hN
              clear h156
              replace hO := hO.mv hE rfl rfl
              replace h152 := h152.mv hE rfl
              replace h157 := h157.mv hE rfl
              replace h158 := h158.mv hE rfl
              replace h160 := h160.mv hE rfl
              replace h162 := h162.mv hE rfl
              replace h167 := h167.mv hE rfl rfl
              replace h175 := h175.mv hE rfl
              clear hE
              refine endP T hS (sp := []) (ks := [1, 3, 9, 10, 11, 34, 35, 36]) (bs := [4, 701, 702, 703, 704]) (sy' := ⟨[(1, V (.slice a2 l_.length c2)), (3, Pt 4 0), (9, .f (.func 68) [] [.p 701 0, .p 702 0, .p 703 0, .p 704 0]), (10, I r166.1), (11, V (.slice a179 (out_153 ++ [(⟨gi order x_142, x_159⟩ : Api_Pick)]).length c180)), (34, V (.slice a3 order.length c3)), (35, I ((order.length : Nat) : Int)), (36, I x_142)], [(4, (24, [I o_.States, I o_.Kinds, I o_.Init, V (.slice a1 o_.Rows.length c1)])), (701, (25, [V (.slice a109 r108.1.length c110)])), (702, (85, [V (.map (some r113))])), (703, (24, [I r108.2.2.1.States, I r108.2.2.1.Kinds, I r108.2.2.1.Init, V (.slice a114 r108.2.2.1.Rows.length c115)])), (704, (3, [I r166.2.2.2]))]⟩) (by kernel_rfl) ?_
              intro a hS
              refine region (endP T hS (sp := []) (ks := [1, 3, 9, 10, 11, 34, 35, 36]) (bs := [4, 701, 702, 703, 704]) (sy' := ⟨[(1, V (.slice a2 l_.length c2)), (3, Pt 4 0), (9, .f (.func 68) [] [.p 701 0, .p 702 0, .p 703 0, .p 704 0]), (10, I r166.1), (11, V (.slice a179 (out_153 ++ [(⟨gi order x_142, x_159⟩ : Api_Pick)]).length c180)), (34, V (.slice a3 order.length c3)), (35, I ((order.length : Nat) : Int)), (36, I (IntKind.i64.wrap (x_142 + 1)))], [(4, (24, [I o_.States, I o_.Kinds, I o_.Init, V (.slice a1 o_.Rows.length c1)])), (701, (25, [V (.slice a109 r108.1.length c110)])), (702, (85, [V (.map (some r113))])), (703, (24, [I r108.2.2.1.States, I r108.2.2.1.Kinds, I r108.2.2.1.Init, V (.slice a114 r108.2.2.1.Rows.length c115)])), (704, (3, [I r166.2.2.2]))]⟩) (by kernel_rfl) ?_)
              intro a hS
              exact ⟨⟨r166.1, out_153 ++ [(⟨gi order x_142, x_159⟩ : Api_Pick)], IntKind.i64.wrap (x_142 + 1), r166.2.2.1, r166.2.2.2⟩, ⟨ρ, _, a179, c180, hm.1, hS.sel [1, 3, 9, 10, 11, 34, 35, 36] [4, 701, 702, 703, 704] (by kernel_rfl), hO, h152, h178, h157, h158, h160, h167, h162⟩, hm.2⟩
        · replace hm := hm.2 hb
          refine wexit (by rfl) ?_
          exact ⟨ρ, _, out_137, a138, c139, hm, hS.sel [11] [] (by kernel_rfl), hO, h140⟩
    · rintro a w200 ⟨ρ, χ199, out_129, a130, c131, hm, hS, hO, h132⟩
      unfold VC22_J1 at hm
      refine regP T hS (sp := []) (ks := [6, 7]) (bs := []) (sy' := ⟨[(6, V (.slice a130 out_129.length c131)), (7, I 0)], []⟩) (by kernel_rfl) ?_
      intro a hS
      refine wret ?_
      obtain ⟨χ133, hE, hF⟩ := h132.freeze (by decide)
      replace hS := hS.ev hE (xone_box (by kernel_rfl))
      replace hO := hO.mv hE rfl rfl
      have h134 := hF; clear hE hF
      exact fin T hS hO (fun c => c) rfl (r := [.slice a130 out_129.length c131, .int .i64 0]) (by kernel_rfl) (fun χ' hM hC => ⟨(out_129, 0), hm, a130, c131, rfl, h134.m0 hM⟩)
theorem C22 (k44 : S44) (k45 : S45) (k48 : S48) (k68 : S68) (v : ∀ (o_ : Api_Object) (l_ : List Api_Oper) (order : List Int), preO2 o_ l_ order → VC22 o_ l_ order (fun r => r = run_Fill o_ l_ order)) : S22 := by
  intro w χ o_ l_ order a1 c1 a2 c2 a3 c3   hp h1 h2 h3
  refine (W22 k44 k45 k48 k68 w χ o_ l_ order a1 c1 a2 c2 a3 c3   _ (v o_ l_ order hp) h1 h2 h3).mono ?_
  rintro _ _ _ _ ⟨r, rfl, h⟩
  exact h
def S23 : Prop := ∀ (w : World) (χ : Nat → Nat) (o_ : Api_Object) (l_ : List Api_Oper) (order : List Int) (a1 : Option Addr) (c1 : Nat) (a2 : Option Addr) (c2 : Nat) (a3 : Option Addr) (c3 : Nat), preR2 o_ l_ order → RS tApi_Row w χ a1 o_.Rows c1 → RS tApi_Oper w χ a2 l_ c2 → RS tI w χ a3 order c3 → Ret Try.prog 23 #[.agg #[.int .i64 o_.States, .int .i64 o_.Kinds, .int .i64 o_.Init, .slice a1 o_.Rows.length c1], .slice a2 l_.length c2, .slice a3 order.length c3] xnone w χ (fun w χ' v => ∃ (ra1 : Option Addr) (rc1 : Nat), v = .tuple #[.slice ra1 ((ref28_Fill o_ l_ order).1).length rc1, .int .i64 ((ref28_Fill o_ l_ order).2)] ∧ RS tApi_Pick w χ' ra1 ((ref28_Fill o_ l_ order).1) rc1)
theorem hb23 : hasBody Try.prog 23 = true := by kernel_rfl
/-- replevin/replevinref28.Fill -/
theorem W23 (k15 : S15) (k47 : S47) (w0 : World) (χ0 : Nat → Nat) (o_ : Api_Object) (l_ : List Api_Oper) (order : List Int) (a1 : Option Addr) (c1 : Nat) (a2 : Option Addr) (c2 : Nat) (a3 : Option Addr) (c3 : Nat) (Q : (List Api_Pick) × Int → Prop) (hm : VC23 o_ l_ order Q) (h1 : RS tApi_Row w0 χ0 a1 o_.Rows c1) (h2 : RS tApi_Oper w0 χ0 a2 l_ c2) (h3 : RS tI w0 χ0 a3 order c3) :
    Ret Try.prog 23 #[.agg #[.int .i64 o_.States, .int .i64 o_.Kinds, .int .i64 o_.Init, .slice a1 o_.Rows.length c1], .slice a2 l_.length c2, .slice a3 order.length c3] xnone w0 χ0 (fun w χ' v => ∃ r, Q r ∧ ∃ (ra1 : Option Addr) (rc1 : Nat), v = .tuple #[.slice ra1 r.1.length rc1, .int .i64 r.2] ∧ RS tApi_Pick w χ' ra1 r.1 rc1) := by
  unfold VC23 at hm
  replace hm := hm (h1.sm (by kernel_rfl))
  replace hm := hm (h2.sm (by kernel_rfl))
  replace hm := hm (h3.sm (by kernel_rfl))
  refine enter Try.func23 rfl (vals := [.agg #[.int .i64 o_.States, .int .i64 o_.Kinds, .int .i64 o_.Init, .slice a1 o_.Rows.length c1], .slice a2 l_.length c2, .slice a3 order.length c3]) (by kernel_rfl) ?_
  intro ρ a hS hO hM
  replace h1 := h1.m0 hM
  replace h2 := h2.m0 hM
  replace h3 := h3.m0 hM
  clear hM
  refine regM T hS (sp := []) (ks := [1, 2, 3]) (bs := [4]) (sy' := ⟨[(1, V (.slice a2 l_.length c2)), (2, V (.slice a3 order.length c3)), (3, Pt 4 0)], [(4, (24, [I o_.States, I o_.Kinds, I o_.Init, V (.slice a1 o_.Rows.length c1)]))]⟩) (by kernel_rfl) ?_
  intro ρ a w183 χ184 hS hE hr
  replace hO := hO.mv hE rfl rfl
  replace h1 := h1.mv hE rfl
  replace h2 := h2.mv hE rfl
  replace h3 := h3.mv hE rfl
  clear hE hr
  refine regP T hS (sp := []) (ks := [1, 2, 3, 8]) (bs := [4]) (sy' := ⟨[(1, V (.slice a2 l_.length c2)), (2, V (.slice a3 order.length c3)), (3, Pt 4 0), (8, V (.slice none 0 0))], [(4, (24, [I o_.States, I o_.Kinds, I o_.Init, V (.slice a1 o_.Rows.length c1)]))]⟩) (by kernel_rfl) ?_
  intro a hS
  refine regO ?_
  refine opsP T hS 5 (sp := []) (ks := [1, 2, 3, 8, 15, 16, 18, 19]) (bs := [4]) (sy' := ⟨[(1, V (.slice a2 l_.length c2)), (2, V (.slice a3 order.length c3)), (3, Pt 4 0), (8, V (.slice none 0 0)), (15, V (.agg #[.int .i64 o_.States, .int .i64 o_.Kinds, .int .i64 o_.Init, .slice a1 o_.Rows.length c1])), (16, V (.slice a2 l_.length c2)), (18, I o_.Init), (19, V (.slice none 0 0))], [(4, (24, [I o_.States, I o_.Kinds, I o_.Init, V (.slice a1 o_.Rows.length c1)]))]⟩) (by kernel_rfl) ?_
  intro a hS
  refine op1 (call hS (by kernel_rfl) (by kernel_rfl) hb15 (by kernel_rfl) (fun _ _ => rfl) (k15 _ _ o_ l_ o_.Init [] a1 c1 a2 c2 none 0 h1 h2 (RS.empty _ _ _)) ?_)
  intro v101 a w102 χ103 hE hp hS
  replace hO := hO.mv hE rfl rfl
  replace h1 := h1.mv hE rfl
  replace h2 := h2.mv hE rfl
  replace h3 := h3.mv hE rfl
  clear hE
  obtain ⟨r104, hr⟩ : ∃ r, ref28_From o_ l_ o_.Init [] = r := ⟨_, rfl⟩
  replace hm := hm r104 hr
  rw [hr] at hp
  clear hr
  subst hp
  refine endP T hS (sp := []) (ks := [1, 2, 3, 8, 9, 11]) (bs := [4]) (sy' := ⟨[(1, V (.slice a2 l_.length c2)), (2, V (.slice a3 order.length c3)), (3, Pt 4 0), (8, V (.slice none 0 0)), (9, I r104.1), (11, I r104.2.2)], [(4, (24, [I o_.States, I o_.Kinds, I o_.Init, V (.slice a1 o_.Rows.length c1)]))]⟩) (by kernel_rfl) ?_
  intro a hS
  refine wseq ?_
  refine regP T hS (sp := []) (ks := [1, 2, 3, 8, 9, 11, 25]) (bs := [4]) (sy' := ⟨[(1, V (.slice a2 l_.length c2)), (2, V (.slice a3 order.length c3)), (3, Pt 4 0), (8, V (.slice none 0 0)), (9, I r104.1), (11, I r104.2.2), (25, B (r104.2.2 != 0))], [(4, (24, [I o_.States, I o_.Kinds, I o_.Init, V (.slice a1 o_.Rows.length c1)]))]⟩) (by kernel_rfl) ?_
  intro a hS
  refine wcond hS (b := (r104.2.2 != 0)) (by kernel_rfl) (fun hb => ?_) (fun hb => ?_)
  · replace hm := hm.1 hb
    refine regP T hS (sp := []) (ks := [6, 7]) (bs := []) (sy' := ⟨[(6, V (.slice none 0 0)), (7, I r104.2.2)], []⟩) (by kernel_rfl) ?_
    intro a hS
    refine wret ?_
    exact fin T hS hO (fun c => c) rfl (r := [.slice none 0 0, .int .i64 r104.2.2]) (by kernel_rfl) (fun χ' hM hC => ⟨([], r104.2.2), hm, none, 0, rfl, RS.empty _ _ _⟩)
  · replace hm := hm.2 hb
    refine wskip ?_
    refine wcut (fun a w => ∃ (ρ : Nat → Nat) (χ : Nat → Nat) (out_105 : List Api_Pick) (a106 : Option Addr) (c107 : Nat), VC23_J1 Q out_105 ∧ St Try.f23.ntmps ⟨[(8, V (.slice a106 out_105.length c107))], []⟩ ρ a w χ ∧ Old w0 χ0 w χ ∧ OS tApi_Pick 52 w χ 1007 a106 out_105 c107) ?_ ?_
    · refine regP T hS (sp := []) (ks := [1, 2, 3, 8, 9, 12]) (bs := [4]) (sy' := ⟨[(1, V (.slice a2 l_.length c2)), (2, V (.slice a3 order.length c3)), (3, Pt 4 0), (8, V (.slice none 0 0)), (9, I r104.1), (12, I 0)], [(4, (24, [I o_.States, I o_.Kinds, I o_.Init, V (.slice a1 o_.Rows.length c1)]))]⟩) (by kernel_rfl) ?_
      intro a hS
      refine wblock ?_
      obtain ⟨I1, μ1, hm0, hm⟩ := hm
      refine wloop (σ := (List Api_Pick) × Int × Int) (fun s a w => ∃ (ρ : Nat → Nat) (χ : Nat → Nat) (a114 : Option Addr) (c115 : Nat), I1 s.1 s.2.1 s.2.2 ∧ St Try.f23.ntmps ⟨[(1, V (.slice a2 l_.length c2)), (2, V (.slice a3 order.length c3)), (3, Pt 4 0), (8, V (.slice a114 s.1.length c115)), (9, I s.2.1), (12, I s.2.2)], [(4, (24, [I o_.States, I o_.Kinds, I o_.Init, V (.slice a1 o_.Rows.length c1)]))]⟩ ρ a w χ ∧ Old w0 χ0 w χ ∧ RS tApi_Oper w χ a2 l_ c2 ∧ RS tI w χ a3 order c3 ∧ OS tApi_Pick 52 w χ 1007 a114 s.1 c115 ∧ RS tApi_Row w χ a1 o_.Rows c1) (fun s => μ1 s.1 s.2.1 s.2.2) (⟨[], r104.1, 0⟩) ?_ ?_
      · exact ⟨ρ, _, none, 0, hm0, hS.sel [1, 2, 3, 8, 9, 12] [4] (by kernel_rfl), hO, h2, h3, (OS.nil _ _ _ _ _), h1⟩
      · rintro ⟨out_113, state_117, i_118⟩ a w180 ⟨ρ, χ179, a114, c115, hI, hS, hO, h111, h112, h116, h119⟩
        replace hm := hm out_113 state_117 i_118 hI
        clear hI hm0
        refine wseq ?_
        refine regP T hS (sp := []) (ks := [1, 2, 3, 8, 9, 12, 30]) (bs := [4]) (sy' := ⟨[(1, V (.slice a2 l_.length c2)), (2, V (.slice a3 order.length c3)), (3, Pt 4 0), (8, V (.slice a114 out_113.length c115)), (9, I state_117), (12, I i_118), (30, B (decide (i_118 < ((order.length : Nat) : Int))))], [(4, (24, [I o_.States, I o_.Kinds, I o_.Init, V (.slice a1 o_.Rows.length c1)]))]⟩) (by kernel_rfl) ?_
        intro a hS
        refine wcond hS (b := decide (i_118 < ((order.length : Nat) : Int))) (by kernel_rfl) (fun hb => ?_) (fun hb => ?_)
        · replace hm := hm.1 hb
          refine wskip ?_
          refine wseq ?_
          refine wblock ?_
          refine regO ?_
          refine opsP T hS 2 (sp := []) (ks := [1, 2, 3, 8, 9, 12, 33, 34]) (bs := [4]) (sy' := ⟨[(1, V (.slice a2 l_.length c2)), (2, V (.slice a3 order.length c3)), (3, Pt 4 0), (8, V (.slice a114 out_113.length c115)), (9, I state_117), (12, I i_118), (33, V (.slice a3 order.length c3)), (34, I i_118)], [(4, (24, [I o_.States, I o_.Kinds, I o_.Init, V (.slice a1 o_.Rows.length c1)]))]⟩) (by kernel_rfl) ?_
          intro a hS
          obtain ⟨hq, hm⟩ := hm
          refine op1 (index (e := 3) (k := .i64) T hS (by kernel_rfl) (by kernel_rfl) (by kernel_rfl) (by kernel_rfl) h112 (by kernel_rfl) (by kernel_rfl) hq.1 hq.2 ?_)
          intro A120 a h121 hS
          clear hq
          refine op1 (load1 T hS (by kernel_rfl) (by kernel_rfl) (by kernel_rfl) h121 rfl (by kernel_rfl) ?_)
          intro v122 a hv hS
          cases hv
          refine endM T hS (sp := []) (ks := [1, 2, 3, 8, 9, 12, 13]) (bs := [4, 14]) (sy' := ⟨[(1, V (.slice a2 l_.length c2)), (2, V (.slice a3 order.length c3)), (3, Pt 4 0), (8, V (.slice a114 out_113.length c115)), (9, I state_117), (12, I i_118), (13, Pt 14 0)], [(4, (24, [I o_.States, I o_.Kinds, I o_.Init, V (.slice a1 o_.Rows.length c1)])), (14, (52, [I (gi order i_118), I 0]))]⟩) (by kernel_rfl) ?_
          intro ρ a w177 χ178 hS hE hr
          replace hO := hO.mv hE rfl rfl
          replace h111 := h111.mv hE rfl
          replace h112 := h112.mv hE rfl
          replace h116 := h116.mv hE rfl rfl
          replace h119 := h119.mv hE rfl
          clear hE hr
          refine wcut (fun a w => ∃ (ρ : Nat → Nat) (χ : Nat → Nat) (out_125 : List Api_Pick) (x_130 : Int) (a126 : Option Addr) (c127 : Nat), VC23_J2 o_ l_ order Q I1 μ1 out_113 state_117 i_118 out_125 x_130 ∧ St Try.f23.ntmps ⟨[(1, V (.slice a2 l_.length c2)), (2, V (.slice a3 order.length c3)), (3, Pt 4 0), (8, V (.slice a126 out_125.length c127)), (12, I i_118), (13, Pt 14 0)], [(4, (24, [I o_.States, I o_.Kinds, I o_.Init, V (.slice a1 o_.Rows.length c1)])), (14, (52, [I (gi order i_118), I x_130]))]⟩ ρ a w χ ∧ Old w0 χ0 w χ ∧ RS tApi_Oper w χ a2 l_ c2 ∧ RS tI w χ a3 order c3 ∧ OS tApi_Pick 52 w χ 1007 a126 out_125 c127 ∧ RS tApi_Row w χ a1 o_.Rows c1) ?_ ?_
          · refine wcut (fun a w => ∃ (ρ : Nat → Nat) (χ : Nat → Nat) (out_146 : List Api_Pick) (x_150 : Bool) (a147 : Option Addr) (c148 : Nat), VC23_J3 o_ l_ order Q I1 μ1 out_113 state_117 i_118 out_146 x_150 ∧ St Try.f23.ntmps ⟨[(1, V (.slice a2 l_.length c2)), (2, V (.slice a3 order.length c3)), (3, Pt 4 0), (8, V (.slice a147 out_146.length c148)), (9, I state_117), (12, I i_118), (13, Pt 14 0), (51, B x_150)], [(4, (24, [I o_.States, I o_.Kinds, I o_.Init, V (.slice a1 o_.Rows.length c1)])), (14, (52, [I (gi order i_118), I 0]))]⟩ ρ a w χ ∧ Old w0 χ0 w χ ∧ RS tApi_Oper w χ a2 l_ c2 ∧ RS tI w χ a3 order c3 ∧ OS tApi_Pick 52 w χ 1007 a147 out_146 c148 ∧ RS tApi_Row w χ a1 o_.Rows c1) ?_ ?_
            · refine region ?_
              refine opsP T hS 2 (sp := []) (ks := [1, 2, 3, 8, 9, 12, 13, 38, 39]) (bs := [4, 14]) (sy' := ⟨[(1, V (.slice a2 l_.length c2)), (2, V (.slice a3 order.length c3)), (3, Pt 4 0), (8, V (.slice a114 out_113.length c115)), (9, I state_117), (12, I i_118), (13, Pt 14 0), (38, V (.slice a3 order.length c3)), (39, I i_118)], [(4, (24, [I o_.States, I o_.Kinds, I o_.Init, V (.slice a1 o_.Rows.length c1)])), (14, (52, [I (gi order i_118), I 0]))]⟩) (by kernel_rfl) ?_
              intro a hS
              obtain ⟨hq, hm⟩ := hm
              refine op1 (index (e := 3) (k := .i64) T hS (by kernel_rfl) (by kernel_rfl) (by kernel_rfl) (by kernel_rfl) h112 (by kernel_rfl) (by kernel_rfl) hq.1 hq.2 ?_)
              intro A167 a h168 hS
              clear hq
              refine op1 (load1 T hS (by kernel_rfl) (by kernel_rfl) (by kernel_rfl) h168 rfl (by kernel_rfl) ?_)
              intro v169 a hv hS
              cases hv
              refine opsP T hS 2 (sp := []) (ks := [1, 2, 3, 8, 9, 12, 13, 43]) (bs := [4, 14]) (sy' := ⟨[(1, V (.slice a2 l_.length c2)), (2, V (.slice a3 order.length c3)), (3, Pt 4 0), (8, V (.slice a114 out_113.length c115)), (9, I state_117), (12, I i_118), (13, Pt 14 0), (43, B (decide ((gi order i_118) ≥ 0)))], [(4, (24, [I o_.States, I o_.Kinds, I o_.Init, V (.slice a1 o_.Rows.length c1)])), (14, (52, [I (gi order i_118), I 0]))]⟩) (by kernel_rfl) ?_
              intro a hS
              rcases Bool.eq_false_or_eq_true (decide ((gi order i_118) ≥ 0)) with hb | hb
              · replace hS := hS.lit (t := 43) (by kernel_rfl) hb
                replace hm := hm.1 hb
                refine opsP T hS 2 (sp := []) (ks := [1, 2, 3, 8, 9, 12, 13, 43, 44, 45]) (bs := [4, 14]) (sy' := ⟨[(1, V (.slice a2 l_.length c2)), (2, V (.slice a3 order.length c3)), (3, Pt 4 0), (8, V (.slice a114 out_113.length c115)), (9, I state_117), (12, I i_118), (13, Pt 14 0), (43, B true), (44, V (.slice a3 order.length c3)), (45, I i_118)], [(4, (24, [I o_.States, I o_.Kinds, I o_.Init, V (.slice a1 o_.Rows.length c1)])), (14, (52, [I (gi order i_118), I 0]))]⟩) (by kernel_rfl) ?_
                intro a hS
                obtain ⟨hq, hm⟩ := hm
                refine op1 (index (e := 3) (k := .i64) T hS (by kernel_rfl) (by kernel_rfl) (by kernel_rfl) (by kernel_rfl) h112 (by kernel_rfl) (by kernel_rfl) hq.1 hq.2 ?_)
                intro A170 a h171 hS
                clear hq
                refine op1 (load1 T hS (by kernel_rfl) (by kernel_rfl) (by kernel_rfl) h171 rfl (by kernel_rfl) ?_)
                intro v172 a hv hS
                cases hv
                refine endP T hS (sp := []) (ks := [1, 2, 3, 8, 9, 12, 13, 44, 45, 46, 47, 48, 49, 50, 51]) (bs := [4, 14]) (sy' := ⟨[(1, V (.slice a2 l_.length c2)), (2, V (.slice a3 order.length c3)), (3, Pt 4 0), (8, V (.slice a114 out_113.length c115)), (9, I state_117), (12, I i_118), (13, Pt 14 0), (44, V (.slice a3 order.length c3)), (45, I i_118), (46, V (.pointer (some A170))), (47, I (gi order i_118)), (48, V (.slice a2 l_.length c2)), (49, I ((l_.length : Nat) : Int)), (50, B (decide ((gi order i_118) < ((l_.length : Nat) : Int)))), (51, B (decide ((gi order i_118) < ((l_.length : Nat) : Int))))], [(4, (24, [I o_.States, I o_.Kinds, I o_.Init, V (.slice a1 o_.Rows.length c1)])), (14, (52, [I (gi order i_118), I 0]))]⟩) (by kernel_rfl) ?_
                intro a hS
                exact ⟨ρ, _, out_113, decide ((gi order i_118) < ((l_.length : Nat) : Int)), a114, c115, hm, hS.sel [1, 2, 3, 8, 9, 12, 13, 51] [4, 14] (by kernel_rfl), hO, h111, h112, h116, h119⟩
              · replace hS := hS.lit (t := 43) (by kernel_rfl) hb
                replace hm := hm.2 hb
                refine endP T hS (sp := []) (ks := [1, 2, 3, 8, 9, 12, 13, 51]) (bs := [4, 14]) (sy' := ⟨[(1, V (.slice a2 l_.length c2)), (2, V (.slice a3 order.length c3)), (3, Pt 4 0), (8, V (.slice a114 out_113.length c115)), (9, I state_117), (12, I i_118), (13, Pt 14 0), (51, B false)], [(4, (24, [I o_.States, I o_.Kinds, I o_.Init, V (.slice a1 o_.Rows.length c1)])), (14, (52, [I (gi order i_118), I 0]))]⟩) (by kernel_rfl) ?_
                intro a hS
                exact ⟨ρ, _, out_113, false, a114, c115, hm, hS.sel [1, 2, 3, 8, 9, 12, 13, 51] [4, 14] (by kernel_rfl), hO, h111, h112, h116, h119⟩
            · rintro a w174 ⟨ρ, χ173, out_146, x_150, a147, c148, hm, hS, hO, h144, h145, h149, h151⟩
              unfold VC23_J3 at hm
              refine wcond hS (b := x_150) (by kernel_rfl) (fun hb => ?_) (fun hb => ?_)
              · replace hm := hm.1 hb
                refine drawn [4] mixed hS ?_
                intro w152 hS hE hD hH
                replace hO := hO.mv hE rfl rfl
                replace h144 := h144.mv hE rfl
                replace h145 := h145.mv hE rfl
                replace h149 := h149.mv hE rfl rfl
                replace h151 := h151.mv hE rfl
                clear hE
                refine take T [0, 1, 2, 3, 4] [4] [1, 2, 3, 8, 12, 13, 53, 54, 55, 56, 57] hS (by kernel_rfl) (by kernel_rfl) (by kernel_rfl) hH (listed' := #[true, true, true, true, true, false, false, false, false, false, false, false, false, false, false, false, false]) (fuel := 12) (sy' := ⟨[(1, V (.slice a2 l_.length c2)), (2, V (.slice a3 order.length c3)), (3, Pt 4 0), (8, V (.slice a147 out_146.length c148)), (12, I i_118), (13, Pt 14 0), (53, V (.agg #[.int .i64 o_.States, .int .i64 o_.Kinds, .int .i64 o_.Init, .slice a1 o_.Rows.length c1])), (54, I state_117), (55, V (.slice a2 l_.length c2)), (56, V (.slice a3 order.length c3)), (57, I i_118)], [(4, (24, [I o_.States, I o_.Kinds, I o_.Init, V (.slice a1 o_.Rows.length c1)])), (14, (52, [I (gi order i_118), I 0]))]⟩) (by kernel_rfl) (by rfl) ?_
                intro a hS
                obtain ⟨hq, hm⟩ := hm
                refine dindex (e := 3) (k := .i64) T 5 hS (by kernel_rfl) (by kernel_rfl) (by kernel_rfl) (by rfl) (by kernel_rfl) hH (by kernel_rfl) (by kernel_rfl) h145 (by kernel_rfl) (by kernel_rfl) hq.1 hq.2 ?_
                intro A153 a h154 hS
                clear hq
                have h154b := h154.here
                refine dload1 T 6 hS (by kernel_rfl) (by kernel_rfl) (by kernel_rfl) (by rfl) (by kernel_rfl) hH (by kernel_rfl) h154 h154b rfl (by kernel_rfl) ?_
                intro v155 a hv hS
                cases hv
                obtain ⟨hq, hm⟩ := hm
                refine dindex (e := 54) (k := .i64) T 7 hS (by kernel_rfl) (by kernel_rfl) (by kernel_rfl) (by rfl) (by kernel_rfl) hH (by kernel_rfl) (by kernel_rfl) h144 (by kernel_rfl) (by kernel_rfl) hq.1 hq.2 ?_
                intro A156 a h157 hS
                clear hq
                have h157b := h157.here
                refine dfieldA (off := 1) (fsz := 1) (ft := 3) (TF := tI) (y := (gi l_ (gi order i_118)).Kind) 8 T hS (by kernel_rfl) (by kernel_rfl) (by kernel_rfl) (by rfl) (by kernel_rfl) hH (by kernel_rfl) h157 (by kernel_rfl) (by kernel_rfl) (by kernel_rfl) (fun cs h => Api_Oper_f1 h) ?_
                intro A158 a h159 hbl hS
                have h159b := h157b
                rw [← hbl] at h159b
                clear hbl
                refine dload1 T 9 hS (by kernel_rfl) (by kernel_rfl) (by kernel_rfl) (by rfl) (by kernel_rfl) hH (by kernel_rfl) h159 h159b rfl (by kernel_rfl) ?_
                intro v160 a hv hS
                cases hv
                refine only 10 (by kernel_rfl) (by rfl) (call hS (by kernel_rfl) (by kernel_rfl) hb47 (by kernel_rfl) (fun _ _ => rfl) (k47 _ _ o_ state_117 ((gi l_ (gi order i_118)).Kind) a1 c1 h151) ?_)
                intro v161 a w162 χ163 hE hp hS
                replace hO := hO.mv hE rfl rfl
                replace hD := hD.ev hE rfl
                replace h144 := h144.mv hE rfl
                replace h145 := h145.mv hE rfl
                replace h149 := h149.mv hE rfl rfl
                replace h151 := h151.mv hE rfl
                replace h154 := h154.mv hE rfl
                replace h157 := h157.mv hE rfl
                replace h159 := h159.mv hE rfl
                clear hE
                obtain ⟨r164, hr⟩ : ∃ r, ref23_Move o_ state_117 ((gi l_ (gi order i_118)).Kind) = r := ⟨_, rfl⟩
                replace hm := hm r164 hr
                rw [hr] at hp
                clear hr
                subst hp
                replace hS := hS.sel [1, 2, 3, 8, 12, 13, 53, 54, 55, 56, 57, 58, 59, 60, 61, 62, 63] [4, 14] (sy' := ⟨[(1, V (.slice a2 l_.length c2)), (2, V (.slice a3 order.length c3)), (3, Pt 4 0), (8, V (.slice a147 out_146.length c148)), (12, I i_118), (13, Pt 14 0), (53, V (.agg #[.int .i64 o_.States, .int .i64 o_.Kinds, .int .i64 o_.Init, .slice a1 o_.Rows.length c1])), (54, I state_117), (55, V (.slice a2 l_.length c2)), (56, V (.slice a3 order.length c3)), (57, I i_118), (58, V (.pointer (some A153))), (59, I (gi order i_118)), (60, V (.pointer (some A156))), (61, V (.pointer (some A158))), (62, I ((gi l_ (gi order i_118)).Kind)), (63, V (.tuple #[.int .i64 r164.1, .int .i64 r164.2.1, .bool r164.2.2]))], [(4, (24, [I o_.States, I o_.Kinds, I o_.Init, V (.slice a1 o_.Rows.length c1)])), (14, (52, [I (gi order i_118), I 0]))]⟩) (by kernel_rfl)
                refine andH (Hold.of hS (bks := [4]) (by kernel_rfl) hD) ?_
                intro hH
                refine take T [11, 12, 13, 14, 15] [4] [1, 2, 3, 8, 12, 13, 65, 67] hS (by kernel_rfl) (by kernel_rfl) (by kernel_rfl) hH (listed' := #[true, true, true, true, true, true, true, true, true, true, true, true, true, true, true, true, false]) (fuel := 1) (sy' := ⟨[(1, V (.slice a2 l_.length c2)), (2, V (.slice a3 order.length c3)), (3, Pt 4 0), (8, V (.slice a147 out_146.length c148)), (12, I i_118), (13, Pt 14 0), (65, I r164.2.1), (67, Pt 14 1)], [(4, (24, [I o_.States, I o_.Kinds, I o_.Init, V (.slice a1 o_.Rows.length c1)])), (14, (52, [I (gi order i_118), I 0]))]⟩) (by kernel_rfl) (by rfl) ?_
                intro a hS
                replace hS := hS.sel [1, 2, 3, 8, 12, 13, 65, 67] [4, 14] (sy' := ⟨[(1, V (.slice a2 l_.length c2)), (2, V (.slice a3 order.length c3)), (3, Pt 4 0), (8, V (.slice a147 out_146.length c148)), (12, I i_118), (13, Pt 14 0), (65, I r164.2.1), (67, Pt 14 1)], [(4, (24, [I o_.States, I o_.Kinds, I o_.Init, V (.slice a1 o_.Rows.length c1)])), (14, (52, [I (gi order i_118), I 0]))]⟩) (by kernel_rfl)
                refine only 16 (by kernel_rfl) (by rfl) (store1 T hS (by kernel_rfl) (by kernel_rfl) (sy' := ⟨[(1, V (.slice a2 l_.length c2)), (2, V (.slice a3 order.length c3)), (3, Pt 4 0), (8, V (.slice a147 out_146.length c148)), (12, I i_118), (13, Pt 14 0), (65, I r164.2.1), (67, Pt 14 1)], [(14, (52, [I (gi order i_118), I r164.2.1])), (4, (24, [I o_.States, I o_.Kinds, I o_.Init, V (.slice a1 o_.Rows.length c1)])), (14, (52, [I (gi order i_118), I 0]))]⟩) (by kernel_rfl) ?_)
                intro a w165 χ166 hS hE
                replace hO := hO.mv hE rfl rfl
                replace hD := hD.ev hE rfl
                replace h144 := h144.mv hE rfl
                replace h145 := h145.mv hE rfl
                replace h149 := h149.mv hE rfl rfl
                replace h151 := h151.mv hE rfl
                replace h154 := h154.mv hE rfl
                replace h157 := h157.mv hE rfl
                replace h159 := h159.mv hE rfl
                clear hE
                replace hS := hS.sel [1, 2, 3, 8, 12, 13, 65, 67] [4, 14] (sy' := ⟨[(1, V (.slice a2 l_.length c2)), (2, V (.slice a3 order.length c3)), (3, Pt 4 0), (8, V (.slice a147 out_146.length c148)), (12, I i_118), (13, Pt 14 0), (65, I r164.2.1), (67, Pt 14 1)], [(4, (24, [I o_.States, I o_.Kinds, I o_.Init, V (.slice a1 o_.Rows.length c1)])), (14, (52, [I (gi order i_118), I r164.2.1]))]⟩) (by kernel_rfl)
                refine andH (Hold.of hS (bks := [4]) (by kernel_rfl) hD) ?_
                intro hH
                refine drawnDone (by kernel_rfl) ?_
                clear hD hH
                replace hS := hS.sel [1, 2, 3, 8, 12, 13] [4, 14] (sy' := ⟨[(1, V (.slice a2 l_.length c2)), (2, V (.slice a3 order.length c3)), (3, Pt 4 0), (8, V (.slice a147 out_146.length c148)), (12, I i_118), (13, Pt 14 0)], [(4, (24, [I o_.States, I o_.Kinds, I o_.Init, V (.slice a1 o_.Rows.length c1)])), (14, (52, [I (gi order i_118), I r164.2.1]))]⟩) (by kernel_rfl)
                exact ⟨ρ, _, out_146, r164.2.1, a147, c148, hm, hS.sel [1, 2, 3, 8, 12, 13] [4, 14] (by kernel_rfl), hO, h144, h145, h149, h151⟩
              · replace hm := hm.2 hb
                refine wskip ?_
                exact ⟨ρ, _, out_146, 0, a147, c148, hm, hS.sel [1, 2, 3, 8, 12, 13] [4, 14] (by kernel_rfl), hO, h144, h145, h149, h151⟩
          · rintro a w176 ⟨ρ, χ175, out_125, x_130, a126, c127, hm, hS, hO, h123, h124, h128, h129⟩
            unfold VC23_J2 at hm
            refine regO ?_
            refine opsP T hS 2 (sp := []) (ks := [1, 2, 3, 8, 12, 68, 69]) (bs := [4]) (sy' := ⟨[(1, V (.slice a2 l_.length c2)), (2, V (.slice a3 order.length c3)), (3, Pt 4 0), (8, V (.slice a126 out_125.length c127)), (12, I i_118), (68, V (.slice a126 out_125.length c127)), (69, V (.agg #[.int .i64 (gi order i_118), .int .i64 x_130]))], [(4, (24, [I o_.States, I o_.Kinds, I o_.Init, V (.slice a1 o_.Rows.length c1)]))]⟩) (by kernel_rfl) ?_
            intro a hS
            refine op1 (lit (E := 52) (col := 0) (T := tApi_Pick) (vals := [.agg #[.int .i64 (gi order i_118), .int .i64 x_130]]) (ys := [(⟨gi order i_118, x_130⟩ : Api_Pick)]) T hS (by kernel_rfl) (by kernel_rfl) (by kernel_rfl) (by kernel_rfl) (by exact ⟨rfl, trivial⟩) rfl (by kernel_rfl) (by kernel_rfl) (by kernel_rfl) (by kernel_rfl) ?_)
            intro b131 a w132 χ133 hE h134 hN hS
            clear hN
            replace hO := hO.mv hE rfl rfl
            replace h123 := h123.mv hE rfl
            replace h124 := h124.mv hE rfl
            replace h128 := h128.mv hE rfl rfl
            replace h129 := h129.mv hE rfl
            clear hE
            replace h134 := h134.rs0
            obtain ⟨hq, hm⟩ := hm
            obtain ⟨news, hN⟩ := h134.src
            refine op1 (append (E := 52) (T := tApi_Pick) (col := 1007) (xs := out_125) T hS (by kernel_rfl) (by kernel_rfl) (by kernel_rfl) (by kernel_rfl) h128 hN (by kernel_rfl) (by kernel_rfl) (by kernel_rfl) (by kernel_rfl) hq ?_)
            intro a138 c139 a w135 χ136 hE h137 hS
            clear hq hN
            clear h128
            replace hO := hO.mv hE rfl rfl
            replace h123 := h123.mv hE rfl
            replace h124 := h124.mv hE rfl
            replace h129 := h129.mv hE rfl
            replace h134 := h134.mv hE rfl
            clear hE
            refine endP T hS (sp := []) (ks := [1, 2, 3, 8, 12]) (bs := [4]) (sy' := ⟨[(1, V (.slice a2 l_.length c2)), (2, V (.slice a3 order.length c3)), (3, Pt 4 0), (8, V (.slice a138 (out_125 ++ [(⟨gi order i_118, x_130⟩ : Api_Pick)]).length c139)), (12, I i_118)], [(4, (24, [I o_.States, I o_.Kinds, I o_.Init, V (.slice a1 o_.Rows.length c1)]))]⟩) (by kernel_rfl) ?_
            intro a hS
            refine regO ?_
            refine opsP T hS 5 (sp := []) (ks := [1, 2, 3, 8, 12, 73, 74, 76, 77]) (bs := [4]) (sy' := ⟨[(1, V (.slice a2 l_.length c2)), (2, V (.slice a3 order.length c3)), (3, Pt 4 0), (8, V (.slice a138 (out_125 ++ [(⟨gi order i_118, x_130⟩ : Api_Pick)]).length c139)), (12, I i_118), (73, V (.agg #[.int .i64 o_.States, .int .i64 o_.Kinds, .int .i64 o_.Init, .slice a1 o_.Rows.length c1])), (74, V (.slice a2 l_.length c2)), (76, I o_.Init), (77, V (.slice a138 (out_125 ++ [(⟨gi order i_118, x_130⟩ : Api_Pick)]).length c139))], [(4, (24, [I o_.States, I o_.Kinds, I o_.Init, V (.slice a1 o_.Rows.length c1)]))]⟩) (by kernel_rfl) ?_
            intro a hS
            refine op1 (call hS (by kernel_rfl) (by kernel_rfl) hb15 (by kernel_rfl) (fun _ _ => rfl) (Ret.unlend (k15 _ (lend 1007 _) o_ l_ o_.Init (out_125 ++ [(⟨gi order i_118, x_130⟩ : Api_Pick)]) a1 c1 a2 c2 a138 c139 (h129.m0 (M0.lend 1007)) (h123.m0 (M0.lend 1007)) h137.lend)) ?_)
            intro v140 a w141 χ142 hE hp hS
            replace hO := hO.mv hE rfl rfl
            replace h123 := h123.mv hE rfl
            replace h124 := h124.mv hE rfl
            replace h129 := h129.mv hE rfl
            replace h137 := h137.mv hE rfl rfl
            clear hE
            obtain ⟨_, hp⟩ := hp
            obtain ⟨r143, hr⟩ : ∃ r, ref28_From o_ l_ o_.Init (out_125 ++ [(⟨gi order i_118, x_130⟩ : Api_Pick)]) = r := ⟨_, rfl⟩
            replace hm := hm r143 hr
            rw [hr] at hp
            clear hr
            subst hp
            refine endP T hS (sp := []) (ks := [1, 2, 3, 8, 9, 11, 12]) (bs := [4]) (sy' := ⟨[(1, V (.slice a2 l_.length c2)), (2, V (.slice a3 order.length c3)), (3, Pt 4 0), (8, V (.slice a138 (out_125 ++ [(⟨gi order i_118, x_130⟩ : Api_Pick)]).length c139)), (9, I r143.1), (11, I r143.2.2), (12, I i_118)], [(4, (24, [I o_.States, I o_.Kinds, I o_.Init, V (.slice a1 o_.Rows.length c1)]))]⟩) (by kernel_rfl) ?_
            intro a hS
            refine regP T hS (sp := []) (ks := [1, 2, 3, 8, 9, 11, 12, 83]) (bs := [4]) (sy' := ⟨[(1, V (.slice a2 l_.length c2)), (2, V (.slice a3 order.length c3)), (3, Pt 4 0), (8, V (.slice a138 (out_125 ++ [(⟨gi order i_118, x_130⟩ : Api_Pick)]).length c139)), (9, I r143.1), (11, I r143.2.2), (12, I i_118), (83, B (r143.2.2 != 0))], [(4, (24, [I o_.States, I o_.Kinds, I o_.Init, V (.slice a1 o_.Rows.length c1)]))]⟩) (by kernel_rfl) ?_
            intro a hS
            refine wcond hS (b := (r143.2.2 != 0)) (by kernel_rfl) (fun hb => ?_) (fun hb => ?_)
            · replace hm := hm.1 hb
              refine regP T hS (sp := []) (ks := [6, 7]) (bs := []) (sy' := ⟨[(6, V (.slice none 0 0)), (7, I r143.2.2)], []⟩) (by kernel_rfl) ?_
              intro a hS
              refine wret ?_
              exact fin T hS hO (fun c => c) rfl (r := [.slice none 0 0, .int .i64 r143.2.2]) (by kernel_rfl) (fun χ' hM hC => ⟨([], r143.2.2), hm, none, 0, rfl, RS.empty _ _ _⟩)
            · replace hm := hm.2 hb
              refine wskip ?_
              refine region (endP T hS (sp := []) (ks := [1, 2, 3, 8, 9, 12]) (bs := [4]) (sy' := ⟨[(1, V (.slice a2 l_.length c2)), (2, V (.slice a3 order.length c3)), (3, Pt 4 0), (8, V (.slice a138 (out_125 ++ [(⟨gi order i_118, x_130⟩ : Api_Pick)]).length c139)), (9, I r143.1), (12, I (IntKind.i64.wrap (i_118 + 1)))], [(4, (24, [I o_.States, I o_.Kinds, I o_.Init, V (.slice a1 o_.Rows.length c1)]))]⟩) (by kernel_rfl) ?_)
              intro a hS
              exact ⟨⟨out_125 ++ [(⟨gi order i_118, x_130⟩ : Api_Pick)], r143.1, IntKind.i64.wrap (i_118 + 1)⟩, ⟨ρ, _, a138, c139, hm.1, hS.sel [1, 2, 3, 8, 9, 12] [4] (by kernel_rfl), hO, h123, h124, h137, h129⟩, hm.2⟩
        · replace hm := hm.2 hb
          refine wexit (by rfl) ?_
          exact ⟨ρ, _, out_113, a114, c115, hm, hS.sel [8] [] (by kernel_rfl), hO, h116⟩
    · rintro a w182 ⟨ρ, χ181, out_105, a106, c107, hm, hS, hO, h108⟩
      unfold VC23_J1 at hm
      refine regP T hS (sp := []) (ks := [6, 7]) (bs := []) (sy' := ⟨[(6, V (.slice a106 out_105.length c107)), (7, I 0)], []⟩) (by kernel_rfl) ?_
      intro a hS
      refine wret ?_
      obtain ⟨χ109, hE, hF⟩ := h108.freeze (by decide)
      replace hS := hS.ev hE (xone_box (by kernel_rfl))
      replace hO := hO.mv hE rfl rfl
      have h110 := hF; clear hE hF
      exact fin T hS hO (fun c => c) rfl (r := [.slice a106 out_105.length c107, .int .i64 0]) (by kernel_rfl) (fun χ' hM hC => ⟨(out_105, 0), hm, a106, c107, rfl, h110.m0 hM⟩)
theorem C23 (k15 : S15) (k47 : S47) (v : ∀ (o_ : Api_Object) (l_ : List Api_Oper) (order : List Int), preR2 o_ l_ order → VC23 o_ l_ order (fun r => r = ref28_Fill o_ l_ order)) : S23 := by
  intro w χ o_ l_ order a1 c1 a2 c2 a3 c3   hp h1 h2 h3
  refine (W23 k15 k47 w χ o_ l_ order a1 c1 a2 c2 a3 c3   _ (v o_ l_ order hp) h1 h2 h3).mono ?_
  rintro _ _ _ _ ⟨r, rfl, h⟩
  exact h
def S24 : Prop := ∀ (w : World) (χ : Nat → Nat) (a_ : List Api_Pick) (b_ : List Api_Pick) (a1 : Option Addr) (c1 : Nat) (a2 : Option Addr) (c2 : Nat), RS tApi_Pick w χ a1 a_ c1 → RS tApi_Pick w χ a2 b_ c2 → Ret Try.prog 24 #[.slice a1 a_.length c1, .slice a2 b_.length c2] xnone w χ (fun w χ' v => v = .bool (ref28_Same a_ b_))
theorem hb24 : hasBody Try.prog 24 = true := by kernel_rfl
/-- replevin/replevinref28.Same -/
theorem W24 (w0 : World) (χ0 : Nat → Nat) (a_ : List Api_Pick) (b_ : List Api_Pick) (a1 : Option Addr) (c1 : Nat) (a2 : Option Addr) (c2 : Nat) (Q : Bool → Prop) (hm : VC24 a_ b_ Q) (h1 : RS tApi_Pick w0 χ0 a1 a_ c1) (h2 : RS tApi_Pick w0 χ0 a2 b_ c2) :
    Ret Try.prog 24 #[.slice a1 a_.length c1, .slice a2 b_.length c2] xnone w0 χ0 (fun w χ' v => ∃ r, Q r ∧ v = .bool r) := by
  unfold VC24 at hm
  replace hm := hm (h1.sm (by kernel_rfl))
  replace hm := hm (h2.sm (by kernel_rfl))
  refine enter Try.func24 rfl (vals := [.slice a1 a_.length c1, .slice a2 b_.length c2]) (by kernel_rfl) ?_
  intro ρ a hS hO hM
  replace h1 := h1.m0 hM
  replace h2 := h2.m0 hM
  clear hM
  refine regP T hS (sp := []) (ks := [0, 1]) (bs := []) (sy' := ⟨[(0, V (.slice a1 a_.length c1)), (1, V (.slice a2 b_.length c2))], []⟩) (by kernel_rfl) ?_
  intro a hS
  refine wseq ?_
  refine regP T hS (sp := []) (ks := [0, 1, 10]) (bs := []) (sy' := ⟨[(0, V (.slice a1 a_.length c1)), (1, V (.slice a2 b_.length c2)), (10, B (((a_.length : Nat) : Int) != ((b_.length : Nat) : Int)))], []⟩) (by kernel_rfl) ?_
  intro a hS
  refine wcond hS (b := (((a_.length : Nat) : Int) != ((b_.length : Nat) : Int))) (by kernel_rfl) (fun hb => ?_) (fun hb => ?_)
  · replace hm := hm.1 hb
    refine regP T hS (sp := []) (ks := [4]) (bs := []) (sy' := ⟨[(4, B false)], []⟩) (by kernel_rfl) ?_
    intro a hS
    refine wret ?_
    exact fin T hS hO (fun c => c) rfl (r := [.bool false]) (by kernel_rfl) (fun χ' hM hC => ⟨false, hm, rfl⟩)
  · replace hm := hm.2 hb
    refine wskip ?_
    refine wcut (fun a w => ∃ (ρ : Nat → Nat) (χ : Nat → Nat), VC24_J1 Q ∧ St Try.f24.ntmps ⟨[], []⟩ ρ a w χ ∧ Old w0 χ0 w χ) ?_ ?_
    · refine regP T hS (sp := []) (ks := [0, 1, 5]) (bs := []) (sy' := ⟨[(0, V (.slice a1 a_.length c1)), (1, V (.slice a2 b_.length c2)), (5, I 0)], []⟩) (by kernel_rfl) ?_
      intro a hS
      refine wblock ?_
      obtain ⟨I1, μ1, hm0, hm⟩ := hm
      refine wloop (σ := Int) (fun s a w => ∃ (ρ : Nat → Nat) (χ : Nat → Nat), I1 s ∧ St Try.f24.ntmps ⟨[(0, V (.slice a1 a_.length c1)), (1, V (.slice a2 b_.length c2)), (5, I s)], []⟩ ρ a w χ ∧ Old w0 χ0 w χ ∧ RS tApi_Pick w χ a1 a_ c1 ∧ RS tApi_Pick w χ a2 b_ c2) (fun s => μ1 s) (0) ?_ ?_
      · exact ⟨ρ, _, hm0, hS.sel [0, 1, 5] [] (by kernel_rfl), hO, h1, h2⟩
      · rintro i_103 a w112 ⟨ρ, χ111, hI, hS, hO, h101, h102⟩
        replace hm := hm i_103 hI
        clear hI hm0
        refine wseq ?_
        refine regP T hS (sp := []) (ks := [0, 1, 5, 14]) (bs := []) (sy' := ⟨[(0, V (.slice a1 a_.length c1)), (1, V (.slice a2 b_.length c2)), (5, I i_103), (14, B (decide (i_103 < ((a_.length : Nat) : Int))))], []⟩) (by kernel_rfl) ?_
        intro a hS
        refine wcond hS (b := decide (i_103 < ((a_.length : Nat) : Int))) (by kernel_rfl) (fun hb => ?_) (fun hb => ?_)
        · replace hm := hm.1 hb
          refine wskip ?_
          refine wseq ?_
          refine wblock ?_
          refine drawnS [] mixed hS ?_
          intro w104 hS hE hD hH
          replace hO := hO.mv hE rfl rfl
          replace h101 := h101.mv hE rfl
          replace h102 := h102.mv hE rfl
          clear hE
          refine take T [0, 1, 4, 5] [] [0, 1, 5, 17, 18, 21, 22] hS (by kernel_rfl) (by kernel_rfl) (by kernel_rfl) hH (listed' := #[true, true, false, false, true, true, false, false, false]) (fuel := 5) (sy' := ⟨[(0, V (.slice a1 a_.length c1)), (1, V (.slice a2 b_.length c2)), (5, I i_103), (17, V (.slice a1 a_.length c1)), (18, I i_103), (21, V (.slice a2 b_.length c2)), (22, I i_103)], []⟩) (by kernel_rfl) (by rfl) ?_
          intro a hS
          obtain ⟨hq, hm⟩ := hm
          refine dindex (e := 52) (k := .i64) T 2 hS (by kernel_rfl) (by kernel_rfl) (by kernel_rfl) (by rfl) (by kernel_rfl) hH (by kernel_rfl) (by kernel_rfl) h101 (by kernel_rfl) (by kernel_rfl) hq.1 hq.2 ?_
          intro A105 a h106 hS
          clear hq
          have h106b := h106.here
          refine dloadA T 3 hS (by kernel_rfl) (by kernel_rfl) (by kernel_rfl) (by rfl) (by kernel_rfl) hH (by kernel_rfl) h106 h106b (by kernel_rfl) (by kernel_rfl) ?_
          intro v107 a hv hS
          subst hv
          obtain ⟨hq, hm⟩ := hm
          refine dindex (e := 52) (k := .i64) T 6 hS (by kernel_rfl) (by kernel_rfl) (by kernel_rfl) (by rfl) (by kernel_rfl) hH (by kernel_rfl) (by kernel_rfl) h102 (by kernel_rfl) (by kernel_rfl) hq.1 hq.2 ?_
          intro A108 a h109 hS
          clear hq
          have h109b := h109.here
          refine dloadA T 7 hS (by kernel_rfl) (by kernel_rfl) (by kernel_rfl) (by rfl) (by kernel_rfl) hH (by kernel_rfl) h109 h109b (by kernel_rfl) (by kernel_rfl) ?_
          intro v110 a hv hS
          subst hv
          refine dstructEq (op := .neq) (xs := [.int .i64 ((gi a_ i_103).Oper), .int .i64 ((gi a_ i_103).Result)]) (ys := [.int .i64 ((gi b_ i_103).Oper), .int .i64 ((gi b_ i_103).Result)]) (r := (((gi a_ i_103).Oper) == ((gi b_ i_103).Oper) && (((gi a_ i_103).Result) == ((gi b_ i_103).Result) && true))) (b := (!(((gi a_ i_103).Oper) == ((gi b_ i_103).Oper) && (((gi a_ i_103).Result) == ((gi b_ i_103).Result) && true)))) 8 T hS (by kernel_rfl) (by kernel_rfl) (by kernel_rfl) (by rfl) (by kernel_rfl) hH (by kernel_rfl) (by kernel_rfl) (by kernel_rfl) (by kernel_rfl) (by kernel_rfl) (by kernel_rfl) ?_
          intro a hS
          refine drawnDone (by kernel_rfl) ?_
          clear hD hH
          replace hS := hS.sel [0, 1, 5, 25] [] (sy' := ⟨[(0, V (.slice a1 a_.length c1)), (1, V (.slice a2 b_.length c2)), (5, I i_103), (25, B (!(((gi a_ i_103).Oper) == ((gi b_ i_103).Oper) && (((gi a_ i_103).Result) == ((gi b_ i_103).Result) && true))))], []⟩) (by kernel_rfl)
          refine wcond hS (b := (!(((gi a_ i_103).Oper) == ((gi b_ i_103).Oper) && (((gi a_ i_103).Result) == ((gi b_ i_103).Result) && true)))) (by kernel_rfl) (fun hb => ?_) (fun hb => ?_)
          · replace hm := hm.1 hb
            refine regP T hS (sp := []) (ks := [4]) (bs := []) (sy' := ⟨[(4, B false)], []⟩) (by kernel_rfl) ?_
            intro a hS
            refine wret ?_
            exact fin T hS hO (fun c => c) rfl (r := [.bool false]) (by kernel_rfl) (fun χ' hM hC => ⟨false, hm, rfl⟩)
          · replace hm := hm.2 hb
            refine wskip ?_
            refine region (endP T hS (sp := []) (ks := [0, 1, 5]) (bs := []) (sy' := ⟨[(0, V (.slice a1 a_.length c1)), (1, V (.slice a2 b_.length c2)), (5, I (IntKind.i64.wrap (i_103 + 1)))], []⟩) (by kernel_rfl) ?_)
            intro a hS
            exact ⟨IntKind.i64.wrap (i_103 + 1), ⟨ρ, _, hm.1, hS.sel [0, 1, 5] [] (by kernel_rfl), hO, h101, h102⟩, hm.2⟩
        · replace hm := hm.2 hb
          refine wexit (by rfl) ?_
          exact ⟨ρ, _, hm, hS.sel [] [] (by kernel_rfl), hO⟩
    · rintro a w114 ⟨ρ, χ113, hm, hS, hO⟩
      unfold VC24_J1 at hm
      refine regP T hS (sp := []) (ks := [4]) (bs := []) (sy' := ⟨[(4, B true)], []⟩) (by kernel_rfl) ?_
      intro a hS
      refine wret ?_
      exact fin T hS hO (fun c => c) rfl (r := [.bool true]) (by kernel_rfl) (fun χ' hM hC => ⟨true, hm, rfl⟩)
theorem C24 (v : ∀ (a_ : List Api_Pick) (b_ : List Api_Pick), VC24 a_ b_ (fun r => r = ref28_Same a_ b_)) : S24 := by
  intro w χ a_ b_ a1 c1 a2 c2   h1 h2
  refine (W24 w χ a_ b_ a1 c1 a2 c2   _ (v a_ b_) h1 h2).mono ?_
  rintro _ _ _ _ ⟨r, rfl, h⟩
  exact h
def S41 : Prop := ∀ (w : World) (χ : Nat → Nat), Ret Try.prog 41 #[] xnone w χ (fun w χ' v => ∃ (ra1 : Option Addr) (rc1 : Nat), v = .agg #[.int .i64 law28_flag.States, .int .i64 law28_flag.Kinds, .int .i64 law28_flag.Init, .slice ra1 law28_flag.Rows.length rc1] ∧ RS tApi_Row w χ' ra1 law28_flag.Rows rc1)
theorem hb41 : hasBody Try.prog 41 = true := by kernel_rfl
/-- replevin/replevinlaw28.flag -/
theorem W41 (w0 : World) (χ0 : Nat → Nat) (Q : Api_Object → Prop) (hm : VC41 Q) :
    Ret Try.prog 41 #[] xnone w0 χ0 (fun w χ' v => ∃ r, Q r ∧ ∃ (ra1 : Option Addr) (rc1 : Nat), v = .agg #[.int .i64 r.States, .int .i64 r.Kinds, .int .i64 r.Init, .slice ra1 r.Rows.length rc1] ∧ RS tApi_Row w χ' ra1 r.Rows rc1) := by
  unfold VC41 at hm
  refine enter Try.func41 rfl (vals := []) (by kernel_rfl) ?_
  intro ρ a hS hO hM
  clear hM
  refine regM T hS (sp := []) (ks := [0]) (bs := [1]) (sy' := ⟨[(0, Pt 1 0)], [(1, (24, [I 0, I 0, I 0, V (.slice none 0 0)]))]⟩) (by kernel_rfl) ?_
  intro ρ a w107 χ108 hS hE hr
  replace hO := hO.mv hE rfl rfl
  clear hE hr
  refine regO ?_
  refine opsP T hS 3 (sp := []) (ks := [0, 1, 2, 3]) (bs := [1]) (sy' := ⟨[(0, Pt 1 0), (1, V (.agg #[.int .i64 0, .int .i64 0, .int .i64 1, .int .i64 0])), (2, V (.agg #[.int .i64 0, .int .i64 1, .int .i64 0, .int .i64 0])), (3, V (.agg #[.int .i64 1, .int .i64 1, .int .i64 1, .int .i64 1]))], [(1, (24, [I 0, I 0, I 0, V (.slice none 0 0)]))]⟩) (by kernel_rfl) ?_
  intro a hS
  refine op1 (lit (E := 102) (col := 0) (T := tApi_Row) (vals := [.agg #[.int .i64 0, .int .i64 0, .int .i64 1, .int .i64 0], .agg #[.int .i64 0, .int .i64 1, .int .i64 0, .int .i64 0], .agg #[.int .i64 1, .int .i64 1, .int .i64 1, .int .i64 1]]) (ys := [(⟨0, 0, 1, 0⟩ : Api_Row), (⟨0, 1, 0, 0⟩ : Api_Row), (⟨1, 1, 1, 1⟩ : Api_Row)]) T hS (by kernel_rfl) (by kernel_rfl) (by kernel_rfl) (by kernel_rfl) (by exact ⟨rfl, rfl, rfl, trivial⟩) rfl (by kernel_rfl) (by kernel_rfl) (by kernel_rfl) (by kernel_rfl) ?_)
  intro b101 a w102 χ103 hE h104 hN hS
  clear hN
  replace hO := hO.mv hE rfl rfl
  clear hE
  replace h104 := h104.rs0
  refine endM T hS (sp := []) (ks := [0]) (bs := [1]) (sy' := ⟨[(0, Pt 1 0)], [(1, (24, [I 2, I 2, I 0, V (.slice (some ⟨b101, 0, none⟩) [(⟨0, 0, 1, 0⟩ : Api_Row), (⟨0, 1, 0, 0⟩ : Api_Row), (⟨1, 1, 1, 1⟩ : Api_Row)].length 3)]))]⟩) (by kernel_rfl) ?_
  intro ρ a w105 χ106 hS hE hr
  replace hO := hO.mv hE rfl rfl
  replace h104 := h104.mv hE rfl
  clear hE hr
  refine wret ?_
  exact fin T hS hO (fun c => c) rfl (r := [.agg #[.int .i64 2, .int .i64 2, .int .i64 0, .slice (some ⟨b101, 0, none⟩) [(⟨0, 0, 1, 0⟩ : Api_Row), (⟨0, 1, 0, 0⟩ : Api_Row), (⟨1, 1, 1, 1⟩ : Api_Row)].length 3]]) (by kernel_rfl) (fun χ' hM hC => ⟨(⟨2, 2, 0, [(⟨0, 0, 1, 0⟩ : Api_Row), (⟨0, 1, 0, 0⟩ : Api_Row), (⟨1, 1, 1, 1⟩ : Api_Row)]⟩ : Api_Object), hm, (some ⟨b101, 0, none⟩), 3, rfl, h104.m0 hM⟩)
theorem C41 (v : ∀ (_ : Unit), VC41 (fun r => r = law28_flag)) : S41 := by
  intro w χ     
  refine (W41 w χ     _ (v ())).mono ?_
  rintro _ _ _ _ ⟨r, rfl, h⟩
  exact h
def S42 : Prop := ∀ (w : World) (χ : Nat → Nat), Ret Try.prog 42 #[] xnone w χ (fun w χ' v => ∃ (ra1 : Option Addr) (rc1 : Nat), v = .slice ra1 law28_ops.length rc1 ∧ RS tApi_Oper w χ' ra1 law28_ops rc1)
theorem hb42 : hasBody Try.prog 42 = true := by kernel_rfl
/-- replevin/replevinlaw28.ops -/
theorem W42 (w0 : World) (χ0 : Nat → Nat) (Q : (List Api_Oper) → Prop) (hm : VC42 Q) :
    Ret Try.prog 42 #[] xnone w0 χ0 (fun w χ' v => ∃ r, Q r ∧ ∃ (ra1 : Option Addr) (rc1 : Nat), v = .slice ra1 r.length rc1 ∧ RS tApi_Oper w χ' ra1 r rc1) := by
  unfold VC42 at hm
  refine enter Try.func42 rfl (vals := []) (by kernel_rfl) ?_
  intro ρ a hS hO hM
  clear hM
  refine regP T hS (sp := []) (ks := []) (bs := []) (sy' := ⟨[], []⟩) (by kernel_rfl) ?_
  intro a hS
  refine regO ?_
  refine opsP T hS 2 (sp := []) (ks := [1, 2]) (bs := []) (sy' := ⟨[(1, V (.agg #[.int .i64 1, .int .i64 0, .int .i64 0, .int .i64 (-1), .int .i64 (-1)])), (2, V (.agg #[.int .i64 2, .int .i64 1, .int .i64 1, .int .i64 2, .int .i64 1]))], []⟩) (by kernel_rfl) ?_
  intro a hS
  refine op1 (lit (E := 54) (col := 0) (T := tApi_Oper) (vals := [.agg #[.int .i64 1, .int .i64 0, .int .i64 0, .int .i64 (-1), .int .i64 (-1)], .agg #[.int .i64 2, .int .i64 1, .int .i64 1, .int .i64 2, .int .i64 1]]) (ys := [(⟨1, 0, 0, (-1), (-1)⟩ : Api_Oper), (⟨2, 1, 1, 2, 1⟩ : Api_Oper)]) T hS (by kernel_rfl) (by kernel_rfl) (by kernel_rfl) (by kernel_rfl) (by exact ⟨rfl, rfl, trivial⟩) rfl (by kernel_rfl) (by kernel_rfl) (by kernel_rfl) (by kernel_rfl) ?_)
  intro b101 a w102 χ103 hE h104 hN hS
  clear hN
  replace hO := hO.mv hE rfl rfl
  clear hE
  replace h104 := h104.rs0
  refine endP T hS (sp := []) (ks := [0]) (bs := []) (sy' := ⟨[(0, V (.slice (some ⟨b101, 0, none⟩) [(⟨1, 0, 0, (-1), (-1)⟩ : Api_Oper), (⟨2, 1, 1, 2, 1⟩ : Api_Oper)].length 2))], []⟩) (by kernel_rfl) ?_
  intro a hS
  refine wret ?_
  exact fin T hS hO (fun c => c) rfl (r := [.slice (some ⟨b101, 0, none⟩) [(⟨1, 0, 0, (-1), (-1)⟩ : Api_Oper), (⟨2, 1, 1, 2, 1⟩ : Api_Oper)].length 2]) (by kernel_rfl) (fun χ' hM hC => ⟨[(⟨1, 0, 0, (-1), (-1)⟩ : Api_Oper), (⟨2, 1, 1, 2, 1⟩ : Api_Oper)], hm, (some ⟨b101, 0, none⟩), 2, rfl, h104.m0 hM⟩)
theorem C42 (v : ∀ (_ : Unit), VC42 (fun r => r = law28_ops)) : S42 := by
  intro w χ     
  refine (W42 w χ     _ (v ())).mono ?_
  rintro _ _ _ _ ⟨r, rfl, h⟩
  exact h
def S13 : Prop := ∀ (w : World) (χ : Nat → Nat), Ret Try.prog 13 #[] xnone w χ (fun w χ' v => v = .bool law28_awake)
theorem hb13 : hasBody Try.prog 13 = true := by kernel_rfl
/-- replevin/replevinlaw28.awake -/
theorem W13 (k14 : S14) (k16 : S16) (k17 : S17) (k19 : S19) (k20 : S20) (k22 : S22) (k24 : S24) (k41 : S41) (k42 : S42) (w0 : World) (χ0 : Nat → Nat) (Q : Bool → Prop) (hm : VC13 Q) :
    Ret Try.prog 13 #[] xnone w0 χ0 (fun w χ' v => ∃ r, Q r ∧ v = .bool r) := by
  unfold VC13 at hm
  refine enter Try.func13 rfl (vals := []) (by kernel_rfl) ?_
  intro ρ a hS hO hM
  clear hM
  refine regP T hS (sp := []) (ks := []) (bs := []) (sy' := ⟨[], []⟩) (by kernel_rfl) ?_
  intro a hS
  refine regO ?_
  refine opsP T hS 2 (sp := []) (ks := [22, 23]) (bs := []) (sy' := ⟨[(22, V (.agg #[.int .i64 0, .int .i64 0])), (23, V (.agg #[.int .i64 1, .int .i64 1]))], []⟩) (by kernel_rfl) ?_
  intro a hS
  refine op1 (lit (E := 52) (col := 0) (T := tApi_Pick) (vals := [.agg #[.int .i64 0, .int .i64 0], .agg #[.int .i64 1, .int .i64 1]]) (ys := [(⟨0, 0⟩ : Api_Pick), (⟨1, 1⟩ : Api_Pick)]) T hS (by kernel_rfl) (by kernel_rfl) (by kernel_rfl) (by kernel_rfl) (by exact ⟨rfl, rfl, trivial⟩) rfl (by kernel_rfl) (by kernel_rfl) (by kernel_rfl) (by kernel_rfl) ?_)
  intro b101 a w102 χ103 hE h104 hN hS
  clear hN
  replace hO := hO.mv hE rfl rfl
  clear hE
  replace h104 := h104.rs0
  refine endP T hS (sp := []) (ks := [1]) (bs := []) (sy' := ⟨[(1, V (.slice (some ⟨b101, 0, none⟩) [(⟨0, 0⟩ : Api_Pick), (⟨1, 1⟩ : Api_Pick)].length 2))], []⟩) (by kernel_rfl) ?_
  intro a hS
  refine regO ?_
  refine op1 (call hS (by kernel_rfl) (by kernel_rfl) hb41 (by kernel_rfl) (fun _ _ => rfl) (k41 _ _) ?_)
  intro v105 a w106 χ107 hE hp hS
  replace hO := hO.mv hE rfl rfl
  replace h104 := h104.mv hE rfl
  clear hE
  obtain ⟨a109, c110, hp, h111⟩ := hp
  obtain ⟨r108, hr⟩ : ∃ r, law28_flag = r := ⟨_, rfl⟩
  replace hm := hm r108 hr
  rw [hr] at hp h111
  clear hr
  subst hp
  replace hm := hm (h111.sm (by kernel_rfl))
  refine op1 (call hS (by kernel_rfl) (by kernel_rfl) hb42 (by kernel_rfl) (fun _ _ => rfl) (k42 _ _) ?_)
  intro v112 a w113 χ114 hE hp hS
  replace hO := hO.mv hE rfl rfl
  replace h104 := h104.mv hE rfl
  replace h111 := h111.mv hE rfl
  clear hE
  obtain ⟨a116, c117, hp, h118⟩ := hp
  obtain ⟨r115, hr⟩ : ∃ r, law28_ops = r := ⟨_, rfl⟩
  replace hm := hm r115 hr
  rw [hr] at hp h118
  clear hr
  subst hp
  replace hm := hm (h118.sm (by kernel_rfl))
  refine opsP T hS 1 (sp := []) (ks := [1, 26, 27, 28]) (bs := []) (sy' := ⟨[(1, V (.slice (some ⟨b101, 0, none⟩) [(⟨0, 0⟩ : Api_Pick), (⟨1, 1⟩ : Api_Pick)].length 2)), (26, V (.agg #[.int .i64 r108.States, .int .i64 r108.Kinds, .int .i64 r108.Init, .slice a109 r108.Rows.length c110])), (27, V (.slice a116 r115.length c117)), (28, V (.slice (some ⟨b101, 0, none⟩) [(⟨0, 0⟩ : Api_Pick), (⟨1, 1⟩ : Api_Pick)].length 2))], []⟩) (by kernel_rfl) ?_
  intro a hS
  obtain ⟨hq, hm⟩ := hm
  refine op1 (call hS (by kernel_rfl) (by kernel_rfl) hb14 (by kernel_rfl) (fun _ _ => rfl) (k14 _ _ r108 r115 [(⟨0, 0⟩ : Api_Pick), (⟨1, 1⟩ : Api_Pick)] a109 c110 a116 c117 (some ⟨b101, 0, none⟩) 2 hq h111 h118 h104) ?_)
  intro v119 a w120 χ121 hE hp hS
  clear hq
  replace hO := hO.mv hE rfl rfl
  replace h104 := h104.mv hE rfl
  replace h111 := h111.mv hE rfl
  replace h118 := h118.mv hE rfl
  clear hE
  obtain ⟨r122, hr⟩ : ∃ r, run_Picks r108 r115 [(⟨0, 0⟩ : Api_Pick), (⟨1, 1⟩ : Api_Pick)] = r := ⟨_, rfl⟩
  replace hm := hm r122 hr
  rw [hr] at hp
  clear hr
  subst hp
  refine endP T hS (sp := []) (ks := [1, 2, 3, 4]) (bs := []) (sy' := ⟨[(1, V (.slice (some ⟨b101, 0, none⟩) [(⟨0, 0⟩ : Api_Pick), (⟨1, 1⟩ : Api_Pick)].length 2)), (2, I r122.1), (3, I r122.2.1), (4, I r122.2.2)], []⟩) (by kernel_rfl) ?_
  intro a hS
  refine drawnS [] mixed hS ?_
  intro w123 hS hE hD hH
  replace hO := hO.mv hE rfl rfl
  replace h104 := h104.mv hE rfl
  clear hE
  refine take T [2] [] [1, 2, 3, 4, 36] hS (by kernel_rfl) (by kernel_rfl) (by kernel_rfl) hH (listed' := #[false, false, true, false, false, false, false, false, false, false, false, false]) (fuel := 11) (sy' := ⟨[(1, V (.slice (some ⟨b101, 0, none⟩) [(⟨0, 0⟩ : Api_Pick), (⟨1, 1⟩ : Api_Pick)].length 2)), (2, I r122.1), (3, I r122.2.1), (4, I r122.2.2), (36, V (.slice (some ⟨b101, 0, none⟩) [(⟨0, 0⟩ : Api_Pick), (⟨1, 1⟩ : Api_Pick)].length 2))], []⟩) (by kernel_rfl) (by rfl) ?_
  intro a hS
  obtain ⟨hq, hm⟩ := hm
  refine dslice1 (E := 52) (kl := .i64) T 3 hS (by kernel_rfl) (by kernel_rfl) (by kernel_rfl) (by rfl) (by kernel_rfl) hH (by kernel_rfl) (by kernel_rfl) h104 (by kernel_rfl) (by kernel_rfl) hq.1 hq.2 ?_
  intro a124 c125 a h126 hS
  clear hq
  refine only 0 (by kernel_rfl) (by rfl) (call hS (by kernel_rfl) (by kernel_rfl) hb41 (by kernel_rfl) (fun _ _ => rfl) (k41 _ _) ?_)
  intro v127 a w128 χ129 hE hp hS
  replace hO := hO.mv hE rfl rfl
  replace hD := hD.ev hE rfl
  replace h104 := h104.mv hE rfl
  replace h126 := h126.mv hE rfl
  clear hE
  obtain ⟨a131, c132, hp, h133⟩ := hp
  obtain ⟨r130, hr⟩ : ∃ r, law28_flag = r := ⟨_, rfl⟩
  replace hm := hm r130 hr
  rw [hr] at hp h133
  clear hr
  subst hp
  replace hm := hm (h133.sm (by kernel_rfl))
  refine andH (Hold.of hS (bks := []) (by kernel_rfl) hD) ?_
  intro hH
  refine only 1 (by kernel_rfl) (by rfl) (call hS (by kernel_rfl) (by kernel_rfl) hb42 (by kernel_rfl) (fun _ _ => rfl) (k42 _ _) ?_)
  intro v134 a w135 χ136 hE hp hS
  replace hO := hO.mv hE rfl rfl
  replace hD := hD.ev hE rfl
  replace h104 := h104.mv hE rfl
  replace h126 := h126.mv hE rfl
  replace h133 := h133.mv hE rfl
  clear hE
  obtain ⟨a138, c139, hp, h140⟩ := hp
  obtain ⟨r137, hr⟩ : ∃ r, law28_ops = r := ⟨_, rfl⟩
  replace hm := hm r137 hr
  rw [hr] at hp h140
  clear hr
  subst hp
  replace hm := hm (h140.sm (by kernel_rfl))
  refine andH (Hold.of hS (bks := []) (by kernel_rfl) hD) ?_
  intro hH
  obtain ⟨hq, hm⟩ := hm
  refine only 4 (by kernel_rfl) (by rfl) (call hS (by kernel_rfl) (by kernel_rfl) hb14 (by kernel_rfl) (fun _ _ => rfl) (k14 _ _ r130 r137 ([(⟨0, 0⟩ : Api_Pick), (⟨1, 1⟩ : Api_Pick)].drop (1 : Int).toNat) a131 c132 a138 c139 a124 c125 hq h133 h140 h126) ?_)
  intro v141 a w142 χ143 hE hp hS
  clear hq
  replace hO := hO.mv hE rfl rfl
  replace hD := hD.ev hE rfl
  replace h104 := h104.mv hE rfl
  replace h126 := h126.mv hE rfl
  replace h133 := h133.mv hE rfl
  replace h140 := h140.mv hE rfl
  clear hE
  obtain ⟨r144, hr⟩ : ∃ r, run_Picks r130 r137 ([(⟨0, 0⟩ : Api_Pick), (⟨1, 1⟩ : Api_Pick)].drop (1 : Int).toNat) = r := ⟨_, rfl⟩
  replace hm := hm r144 hr
  rw [hr] at hp
  clear hr
  subst hp
  refine andH (Hold.of hS (bks := []) (by kernel_rfl) hD) ?_
  intro hH
  refine take T [5, 6, 7, 8, 9, 10, 11] [] [1, 2, 3, 4, 6, 7] hS (by kernel_rfl) (by kernel_rfl) (by kernel_rfl) hH (listed' := #[true, true, true, true, true, true, true, true, true, true, true, true]) (fuel := 0) (sy' := ⟨[(1, V (.slice (some ⟨b101, 0, none⟩) [(⟨0, 0⟩ : Api_Pick), (⟨1, 1⟩ : Api_Pick)].length 2)), (2, I r122.1), (3, I r122.2.1), (4, I r122.2.2), (6, I r144.2.1), (7, I r144.2.2)], []⟩) (by kernel_rfl) (by rfl) ?_
  intro a hS
  refine drawnDone (by kernel_rfl) ?_
  clear hD hH
  replace hS := hS.sel [1, 2, 3, 4, 6, 7] [] (sy' := ⟨[(1, V (.slice (some ⟨b101, 0, none⟩) [(⟨0, 0⟩ : Api_Pick), (⟨1, 1⟩ : Api_Pick)].length 2)), (2, I r122.1), (3, I r122.2.1), (4, I r122.2.2), (6, I r144.2.1), (7, I r144.2.2)], []⟩) (by kernel_rfl)
  refine regO ?_
  refine op1 (call hS (by kernel_rfl) (by kernel_rfl) hb41 (by kernel_rfl) (fun _ _ => rfl) (k41 _ _) ?_)
  intro v145 a w146 χ147 hE hp hS
  replace hO := hO.mv hE rfl rfl
  replace h104 := h104.mv hE rfl
  clear hE
  obtain ⟨a149, c150, hp, h151⟩ := hp
  obtain ⟨r148, hr⟩ : ∃ r, law28_flag = r := ⟨_, rfl⟩
  replace hm := hm r148 hr
  rw [hr] at hp h151
  clear hr
  subst hp
  replace hm := hm (h151.sm (by kernel_rfl))
  refine op1 (call hS (by kernel_rfl) (by kernel_rfl) hb42 (by kernel_rfl) (fun _ _ => rfl) (k42 _ _) ?_)
  intro v152 a w153 χ154 hE hp hS
  replace hO := hO.mv hE rfl rfl
  replace h104 := h104.mv hE rfl
  replace h151 := h151.mv hE rfl
  clear hE
  obtain ⟨a156, c157, hp, h158⟩ := hp
  obtain ⟨r155, hr⟩ : ∃ r, law28_ops = r := ⟨_, rfl⟩
  replace hm := hm r155 hr
  rw [hr] at hp h158
  clear hr
  subst hp
  replace hm := hm (h158.sm (by kernel_rfl))
  refine op1 (lit (E := 3) (col := 0) (T := tI) (vals := [.int .i64 0, .int .i64 1]) (ys := [0, 1]) T hS (by kernel_rfl) (by kernel_rfl) (by kernel_rfl) (by kernel_rfl) (by exact ⟨rfl, rfl, trivial⟩) rfl (by kernel_rfl) (by kernel_rfl) (by kernel_rfl) (by kernel_rfl) ?_)
  intro b159 a w160 χ161 hE h162 hN hS
  clear hN
  replace hO := hO.mv hE rfl rfl
  replace h104 := h104.mv hE rfl
  replace h151 := h151.mv hE rfl
  replace h158 := h158.mv hE rfl
  clear hE
  replace h162 := h162.rs0
  obtain ⟨hq, hm⟩ := hm
  refine op1 (call hS (by kernel_rfl) (by kernel_rfl) hb22 (by kernel_rfl) (fun _ _ => rfl) (k22 _ _ r148 r155 [0, 1] a149 c150 a156 c157 (some ⟨b159, 0, none⟩) 2 hq h151 h158 h162) ?_)
  intro v163 a w164 χ165 hE hp hS
  clear hq
  replace hO := hO.mv hE rfl rfl
  replace h104 := h104.mv hE rfl
  replace h151 := h151.mv hE rfl
  replace h158 := h158.mv hE rfl
  replace h162 := h162.mv hE rfl
  clear hE
  obtain ⟨a167, c168, hp, h169⟩ := hp
  obtain ⟨r166, hr⟩ : ∃ r, run_Fill r148 r155 [0, 1] = r := ⟨_, rfl⟩
  replace hm := hm r166 hr
  rw [hr] at hp h169
  clear hr
  subst hp
  replace hm := hm (h169.sm (by kernel_rfl))
  refine endP T hS (sp := []) (ks := [1, 2, 3, 4, 6, 7, 8, 9]) (bs := []) (sy' := ⟨[(1, V (.slice (some ⟨b101, 0, none⟩) [(⟨0, 0⟩ : Api_Pick), (⟨1, 1⟩ : Api_Pick)].length 2)), (2, I r122.1), (3, I r122.2.1), (4, I r122.2.2), (6, I r144.2.1), (7, I r144.2.2), (8, V (.slice a167 r166.1.length c168)), (9, I r166.2)], []⟩) (by kernel_rfl) ?_
  intro a hS
  refine regO ?_
  refine op1 (call hS (by kernel_rfl) (by kernel_rfl) hb41 (by kernel_rfl) (fun _ _ => rfl) (k41 _ _) ?_)
  intro v170 a w171 χ172 hE hp hS
  replace hO := hO.mv hE rfl rfl
  replace h104 := h104.mv hE rfl
  replace h169 := h169.mv hE rfl
  clear hE
  obtain ⟨a174, c175, hp, h176⟩ := hp
  obtain ⟨r173, hr⟩ : ∃ r, law28_flag = r := ⟨_, rfl⟩
  replace hm := hm r173 hr
  rw [hr] at hp h176
  clear hr
  subst hp
  replace hm := hm (h176.sm (by kernel_rfl))
  refine op1 (call hS (by kernel_rfl) (by kernel_rfl) hb42 (by kernel_rfl) (fun _ _ => rfl) (k42 _ _) ?_)
  intro v177 a w178 χ179 hE hp hS
  replace hO := hO.mv hE rfl rfl
  replace h104 := h104.mv hE rfl
  replace h169 := h169.mv hE rfl
  replace h176 := h176.mv hE rfl
  clear hE
  obtain ⟨a181, c182, hp, h183⟩ := hp
  obtain ⟨r180, hr⟩ : ∃ r, law28_ops = r := ⟨_, rfl⟩
  replace hm := hm r180 hr
  rw [hr] at hp h183
  clear hr
  subst hp
  replace hm := hm (h183.sm (by kernel_rfl))
  refine op1 (lit (E := 3) (col := 0) (T := tI) (vals := [.int .i64 1]) (ys := [1]) T hS (by kernel_rfl) (by kernel_rfl) (by kernel_rfl) (by kernel_rfl) (by exact ⟨rfl, trivial⟩) rfl (by kernel_rfl) (by kernel_rfl) (by kernel_rfl) (by kernel_rfl) ?_)
  intro b184 a w185 χ186 hE h187 hN hS
  clear hN
  replace hO := hO.mv hE rfl rfl
  replace h104 := h104.mv hE rfl
  replace h169 := h169.mv hE rfl
  replace h176 := h176.mv hE rfl
  replace h183 := h183.mv hE rfl
  clear hE
  replace h187 := h187.rs0
  obtain ⟨hq, hm⟩ := hm
  refine op1 (call hS (by kernel_rfl) (by kernel_rfl) hb22 (by kernel_rfl) (fun _ _ => rfl) (k22 _ _ r173 r180 [1] a174 c175 a181 c182 (some ⟨b184, 0, none⟩) 1 hq h176 h183 h187) ?_)
  intro v188 a w189 χ190 hE hp hS
  clear hq
  replace hO := hO.mv hE rfl rfl
  replace h104 := h104.mv hE rfl
  replace h169 := h169.mv hE rfl
  replace h176 := h176.mv hE rfl
  replace h183 := h183.mv hE rfl
  replace h187 := h187.mv hE rfl
  clear hE
  obtain ⟨a192, c193, hp, h194⟩ := hp
  obtain ⟨r191, hr⟩ : ∃ r, run_Fill r173 r180 [1] = r := ⟨_, rfl⟩
  replace hm := hm r191 hr
  rw [hr] at hp h194
  clear hr
  subst hp
  replace hm := hm (h194.sm (by kernel_rfl))
  refine endP T hS (sp := []) (ks := [1, 2, 3, 4, 6, 7, 8, 9, 11]) (bs := []) (sy' := ⟨[(1, V (.slice (some ⟨b101, 0, none⟩) [(⟨0, 0⟩ : Api_Pick), (⟨1, 1⟩ : Api_Pick)].length 2)), (2, I r122.1), (3, I r122.2.1), (4, I r122.2.2), (6, I r144.2.1), (7, I r144.2.2), (8, V (.slice a167 r166.1.length c168)), (9, I r166.2), (11, I r191.2)], []⟩) (by kernel_rfl) ?_
  intro a hS
  refine regO ?_
  refine op1 (call hS (by kernel_rfl) (by kernel_rfl) hb41 (by kernel_rfl) (fun _ _ => rfl) (k41 _ _) ?_)
  intro v195 a w196 χ197 hE hp hS
  replace hO := hO.mv hE rfl rfl
  replace h104 := h104.mv hE rfl
  replace h169 := h169.mv hE rfl
  clear hE
  obtain ⟨a199, c200, hp, h201⟩ := hp
  obtain ⟨r198, hr⟩ : ∃ r, law28_flag = r := ⟨_, rfl⟩
  replace hm := hm r198 hr
  rw [hr] at hp h201
  clear hr
  subst hp
  replace hm := hm (h201.sm (by kernel_rfl))
  refine op1 (call hS (by kernel_rfl) (by kernel_rfl) hb17 (by kernel_rfl) (fun _ _ => rfl) (k17 _ _ r198 0 0 0 a199 c200 h201) ?_)
  intro v202 a w203 χ204 hE hp hS
  replace hO := hO.mv hE rfl rfl
  replace h104 := h104.mv hE rfl
  replace h169 := h169.mv hE rfl
  replace h201 := h201.mv hE rfl
  clear hE
  obtain ⟨r205, hr⟩ : ∃ r, run_Step r198 0 0 0 = r := ⟨_, rfl⟩
  replace hm := hm r205 hr
  rw [hr] at hp
  clear hr
  subst hp
  refine endP T hS (sp := []) (ks := [1, 2, 3, 4, 6, 7, 8, 9, 11, 12, 13]) (bs := []) (sy' := ⟨[(1, V (.slice (some ⟨b101, 0, none⟩) [(⟨0, 0⟩ : Api_Pick), (⟨1, 1⟩ : Api_Pick)].length 2)), (2, I r122.1), (3, I r122.2.1), (4, I r122.2.2), (6, I r144.2.1), (7, I r144.2.2), (8, V (.slice a167 r166.1.length c168)), (9, I r166.2), (11, I r191.2), (12, I r205.1), (13, I r205.2)], []⟩) (by kernel_rfl) ?_
  intro a hS
  refine regO ?_
  refine op1 (call hS (by kernel_rfl) (by kernel_rfl) hb41 (by kernel_rfl) (fun _ _ => rfl) (k41 _ _) ?_)
  intro v206 a w207 χ208 hE hp hS
  replace hO := hO.mv hE rfl rfl
  replace h104 := h104.mv hE rfl
  replace h169 := h169.mv hE rfl
  clear hE
  obtain ⟨a210, c211, hp, h212⟩ := hp
  obtain ⟨r209, hr⟩ : ∃ r, law28_flag = r := ⟨_, rfl⟩
  replace hm := hm r209 hr
  rw [hr] at hp h212
  clear hr
  subst hp
  replace hm := hm (h212.sm (by kernel_rfl))
  refine op1 (call hS (by kernel_rfl) (by kernel_rfl) hb17 (by kernel_rfl) (fun _ _ => rfl) (k17 _ _ r209 2 0 0 a210 c211 h212) ?_)
  intro v213 a w214 χ215 hE hp hS
  replace hO := hO.mv hE rfl rfl
  replace h104 := h104.mv hE rfl
  replace h169 := h169.mv hE rfl
  replace h212 := h212.mv hE rfl
  clear hE
  obtain ⟨r216, hr⟩ : ∃ r, run_Step r209 2 0 0 = r := ⟨_, rfl⟩
  replace hm := hm r216 hr
  rw [hr] at hp
  clear hr
  subst hp
  refine endP T hS (sp := []) (ks := [1, 2, 3, 4, 6, 7, 8, 9, 11, 12, 13, 15]) (bs := []) (sy' := ⟨[(1, V (.slice (some ⟨b101, 0, none⟩) [(⟨0, 0⟩ : Api_Pick), (⟨1, 1⟩ : Api_Pick)].length 2)), (2, I r122.1), (3, I r122.2.1), (4, I r122.2.2), (6, I r144.2.1), (7, I r144.2.2), (8, V (.slice a167 r166.1.length c168)), (9, I r166.2), (11, I r191.2), (12, I r205.1), (13, I r205.2), (15, I r216.2)], []⟩) (by kernel_rfl) ?_
  intro a hS
  refine drawnS [] mixed hS ?_
  intro w217 hS hE hD hH
  replace hO := hO.mv hE rfl rfl
  replace h104 := h104.mv hE rfl
  replace h169 := h169.mv hE rfl
  clear hE
  refine take T [2] [] [1, 2, 3, 4, 6, 7, 8, 9, 11, 12, 13, 15, 69] hS (by kernel_rfl) (by kernel_rfl) (by kernel_rfl) hH (listed' := #[false, false, true, false, false, false, false, false, false, false, false, false]) (fuel := 11) (sy' := ⟨[(1, V (.slice (some ⟨b101, 0, none⟩) [(⟨0, 0⟩ : Api_Pick), (⟨1, 1⟩ : Api_Pick)].length 2)), (2, I r122.1), (3, I r122.2.1), (4, I r122.2.2), (6, I r144.2.1), (7, I r144.2.2), (8, V (.slice a167 r166.1.length c168)), (9, I r166.2), (11, I r191.2), (12, I r205.1), (13, I r205.2), (15, I r216.2), (69, V (.slice (some ⟨b101, 0, none⟩) [(⟨0, 0⟩ : Api_Pick), (⟨1, 1⟩ : Api_Pick)].length 2))], []⟩) (by kernel_rfl) (by rfl) ?_
  intro a hS
  obtain ⟨hq, hm⟩ := hm
  refine dslice1 (E := 52) (kl := .i64) T 3 hS (by kernel_rfl) (by kernel_rfl) (by kernel_rfl) (by rfl) (by kernel_rfl) hH (by kernel_rfl) (by kernel_rfl) h104 (by kernel_rfl) (by kernel_rfl) hq.1 hq.2 ?_
  intro a218 c219 a h220 hS
  clear hq
  refine only 0 (by kernel_rfl) (by rfl) (call hS (by kernel_rfl) (by kernel_rfl) hb41 (by kernel_rfl) (fun _ _ => rfl) (k41 _ _) ?_)
  intro v221 a w222 χ223 hE hp hS
  replace hO := hO.mv hE rfl rfl
  replace hD := hD.ev hE rfl
  replace h104 := h104.mv hE rfl
  replace h169 := h169.mv hE rfl
  replace h220 := h220.mv hE rfl
  clear hE
  obtain ⟨a225, c226, hp, h227⟩ := hp
  obtain ⟨r224, hr⟩ : ∃ r, law28_flag = r := ⟨_, rfl⟩
  replace hm := hm r224 hr
  rw [hr] at hp h227
  clear hr
  subst hp
  replace hm := hm (h227.sm (by kernel_rfl))
  refine andH (Hold.of hS (bks := []) (by kernel_rfl) hD) ?_
  intro hH
  refine only 1 (by kernel_rfl) (by rfl) (call hS (by kernel_rfl) (by kernel_rfl) hb42 (by kernel_rfl) (fun _ _ => rfl) (k42 _ _) ?_)
  intro v228 a w229 χ230 hE hp hS
  replace hO := hO.mv hE rfl rfl
  replace hD := hD.ev hE rfl
  replace h104 := h104.mv hE rfl
  replace h169 := h169.mv hE rfl
  replace h220 := h220.mv hE rfl
  replace h227 := h227.mv hE rfl
  clear hE
  obtain ⟨a232, c233, hp, h234⟩ := hp
  obtain ⟨r231, hr⟩ : ∃ r, law28_ops = r := ⟨_, rfl⟩
  replace hm := hm r231 hr
  rw [hr] at hp h234
  clear hr
  subst hp
  replace hm := hm (h234.sm (by kernel_rfl))
  refine andH (Hold.of hS (bks := []) (by kernel_rfl) hD) ?_
  intro hH
  obtain ⟨hq, hm⟩ := hm
  refine only 4 (by kernel_rfl) (by rfl) (call hS (by kernel_rfl) (by kernel_rfl) hb16 (by kernel_rfl) (fun _ _ => rfl) (k16 _ _ r224 r231 1 ([(⟨0, 0⟩ : Api_Pick), (⟨1, 1⟩ : Api_Pick)].drop (1 : Int).toNat) a225 c226 a232 c233 a218 c219 hq h227 h234 h220) ?_)
  intro v235 a w236 χ237 hE hp hS
  clear hq
  replace hO := hO.mv hE rfl rfl
  replace hD := hD.ev hE rfl
  replace h104 := h104.mv hE rfl
  replace h169 := h169.mv hE rfl
  replace h220 := h220.mv hE rfl
  replace h227 := h227.mv hE rfl
  replace h234 := h234.mv hE rfl
  clear hE
  obtain ⟨r238, hr⟩ : ∃ r, run_From r224 r231 1 ([(⟨0, 0⟩ : Api_Pick), (⟨1, 1⟩ : Api_Pick)].drop (1 : Int).toNat) = r := ⟨_, rfl⟩
  replace hm := hm r238 hr
  rw [hr] at hp
  clear hr
  subst hp
  refine andH (Hold.of hS (bks := []) (by kernel_rfl) hD) ?_
  intro hH
  refine take T [5, 6, 7, 8, 9, 10, 11] [] [1, 2, 3, 4, 6, 7, 8, 9, 11, 12, 13, 15, 16, 18] hS (by kernel_rfl) (by kernel_rfl) (by kernel_rfl) hH (listed' := #[true, true, true, true, true, true, true, true, true, true, true, true]) (fuel := 0) (sy' := ⟨[(1, V (.slice (some ⟨b101, 0, none⟩) [(⟨0, 0⟩ : Api_Pick), (⟨1, 1⟩ : Api_Pick)].length 2)), (2, I r122.1), (3, I r122.2.1), (4, I r122.2.2), (6, I r144.2.1), (7, I r144.2.2), (8, V (.slice a167 r166.1.length c168)), (9, I r166.2), (11, I r191.2), (12, I r205.1), (13, I r205.2), (15, I r216.2), (16, I r238.1), (18, I r238.2.2)], []⟩) (by kernel_rfl) (by rfl) ?_
  intro a hS
  refine drawnDone (by kernel_rfl) ?_
  clear hD hH
  replace hS := hS.sel [1, 2, 3, 4, 6, 7, 8, 9, 11, 12, 13, 15, 16, 18] [] (sy' := ⟨[(1, V (.slice (some ⟨b101, 0, none⟩) [(⟨0, 0⟩ : Api_Pick), (⟨1, 1⟩ : Api_Pick)].length 2)), (2, I r122.1), (3, I r122.2.1), (4, I r122.2.2), (6, I r144.2.1), (7, I r144.2.2), (8, V (.slice a167 r166.1.length c168)), (9, I r166.2), (11, I r191.2), (12, I r205.1), (13, I r205.2), (15, I r216.2), (16, I r238.1), (18, I r238.2.2)], []⟩) (by kernel_rfl)
  refine regO ?_
  refine op1 (call hS (by kernel_rfl) (by kernel_rfl) hb41 (by kernel_rfl) (fun _ _ => rfl) (k41 _ _) ?_)
  intro v239 a w240 χ241 hE hp hS
  replace hO := hO.mv hE rfl rfl
  replace h104 := h104.mv hE rfl
  replace h169 := h169.mv hE rfl
  clear hE
  obtain ⟨a243, c244, hp, h245⟩ := hp
  obtain ⟨r242, hr⟩ : ∃ r, law28_flag = r := ⟨_, rfl⟩
  replace hm := hm r242 hr
  rw [hr] at hp h245
  clear hr
  subst hp
  replace hm := hm (h245.sm (by kernel_rfl))
  refine op1 (call hS (by kernel_rfl) (by kernel_rfl) hb42 (by kernel_rfl) (fun _ _ => rfl) (k42 _ _) ?_)
  intro v246 a w247 χ248 hE hp hS
  replace hO := hO.mv hE rfl rfl
  replace h104 := h104.mv hE rfl
  replace h169 := h169.mv hE rfl
  replace h245 := h245.mv hE rfl
  clear hE
  obtain ⟨a250, c251, hp, h252⟩ := hp
  obtain ⟨r249, hr⟩ : ∃ r, law28_ops = r := ⟨_, rfl⟩
  replace hm := hm r249 hr
  rw [hr] at hp h252
  clear hr
  subst hp
  replace hm := hm (h252.sm (by kernel_rfl))
  obtain ⟨hq, hm⟩ := hm
  refine op1 (call hS (by kernel_rfl) (by kernel_rfl) hb16 (by kernel_rfl) (fun _ _ => rfl) (k16 _ _ r242 r249 5 [] a243 c244 a250 c251 none 0 hq h245 h252 (RS.empty _ _ _)) ?_)
  intro v253 a w254 χ255 hE hp hS
  clear hq
  replace hO := hO.mv hE rfl rfl
  replace h104 := h104.mv hE rfl
  replace h169 := h169.mv hE rfl
  replace h245 := h245.mv hE rfl
  replace h252 := h252.mv hE rfl
  clear hE
  obtain ⟨r256, hr⟩ : ∃ r, run_From r242 r249 5 [] = r := ⟨_, rfl⟩
  replace hm := hm r256 hr
  rw [hr] at hp
  clear hr
  subst hp
  refine endP T hS (sp := []) (ks := [1, 2, 3, 4, 6, 7, 8, 9, 11, 12, 13, 15, 16, 18, 21]) (bs := []) (sy' := ⟨[(1, V (.slice (some ⟨b101, 0, none⟩) [(⟨0, 0⟩ : Api_Pick), (⟨1, 1⟩ : Api_Pick)].length 2)), (2, I r122.1), (3, I r122.2.1), (4, I r122.2.2), (6, I r144.2.1), (7, I r144.2.2), (8, V (.slice a167 r166.1.length c168)), (9, I r166.2), (11, I r191.2), (12, I r205.1), (13, I r205.2), (15, I r216.2), (16, I r238.1), (18, I r238.2.2), (21, I r256.2.2)], []⟩) (by kernel_rfl) ?_
  intro a hS
  refine drawnS [] mixed hS ?_
  intro w257 hS hE hD hH
  replace hO := hO.mv hE rfl rfl
  replace h104 := h104.mv hE rfl
  replace h169 := h169.mv hE rfl
  clear hE
  refine take T [0, 1, 2] [] [1, 3, 4, 6, 7, 8, 9, 11, 12, 13, 15, 16, 18, 21, 84] hS (by kernel_rfl) (by kernel_rfl) (by kernel_rfl) hH (listed' := #[true, true, true, false, false, false, false, false, false, false, false, false, false, false, false, false, false, false, false, false, false, false, false, false, false, false, false, false, false, false, false, false, false, false, false, false, false, false, false, false, false, false, false, false, false, false, false, false, false, false, false, false, false, false, false, false, false, false, false, false, false, false, false, false, false, false, false, false, false, false, false, false, false]) (fuel := 70) (sy' := ⟨[(1, V (.slice (some ⟨b101, 0, none⟩) [(⟨0, 0⟩ : Api_Pick), (⟨1, 1⟩ : Api_Pick)].length 2)), (3, I r122.2.1), (4, I r122.2.2), (6, I r144.2.1), (7, I r144.2.2), (8, V (.slice a167 r166.1.length c168)), (9, I r166.2), (11, I r191.2), (12, I r205.1), (13, I r205.2), (15, I r216.2), (16, I r238.1), (18, I r238.2.2), (21, I r256.2.2), (84, B (r122.1 == 1))], []⟩) (by as_aux_lemma => kernel_rfl) (by rfl) ?_
  intro a hS
  refine takeM (tc := 84) (b := (r122.1 == 1)) (f := fun c => ⟨[(1, V (.slice (some ⟨b101, 0, none⟩) [(⟨0, 0⟩ : Api_Pick), (⟨1, 1⟩ : Api_Pick)].length 2)), (4, I r122.2.2), (6, I r144.2.1), (7, I r144.2.2), (8, V (.slice a167 r166.1.length c168)), (9, I r166.2), (11, I r191.2), (12, I r205.1), (13, I r205.2), (15, I r216.2), (16, I r238.1), (18, I r238.2.2), (21, I r256.2.2), (87, B (c && (r122.2.1 == 2)))], []⟩) T [3, 4, 5] [] [1, 4, 6, 7, 8, 9, 11, 12, 13, 15, 16, 18, 21, 87] hS (by kernel_rfl) (by kernel_rfl) (by kernel_rfl) (by kernel_rfl) hH (listed' := #[true, true, true, true, true, true, false, false, false, false, false, false, false, false, false, false, false, false, false, false, false, false, false, false, false, false, false, false, false, false, false, false, false, false, false, false, false, false, false, false, false, false, false, false, false, false, false, false, false, false, false, false, false, false, false, false, false, false, false, false, false, false, false, false, false, false, false, false, false, false, false, false, false]) (fuel := 67) (by kernel_rfl) (by kernel_rfl) (by rfl) ?_
  intro a hS
  refine take T [6] [] [1, 4, 6, 7, 8, 9, 11, 12, 13, 15, 16, 18, 21, 88] hS (by kernel_rfl) (by kernel_rfl) (by kernel_rfl) hH (listed' := #[true, true, true, true, true, true, true, false, false, false, false, false, false, false, false, false, false, false, false, false, false, false, false, false, false, false, false, false, false, false, false, false, false, false, false, false, false, false, false, false, false, false, false, false, false, false, false, false, false, false, false, false, false, false, false, false, false, false, false, false, false, false, false, false, false, false, false, false, false, false, false, false, false]) (fuel := 66) (sy' := ⟨[(1, V (.slice (some ⟨b101, 0, none⟩) [(⟨0, 0⟩ : Api_Pick), (⟨1, 1⟩ : Api_Pick)].length 2)), (4, I r122.2.2), (6, I r144.2.1), (7, I r144.2.2), (8, V (.slice a167 r166.1.length c168)), (9, I r166.2), (11, I r191.2), (12, I r205.1), (13, I r205.2), (15, I r216.2), (16, I r238.1), (18, I r238.2.2), (21, I r256.2.2), (88, B ((r122.1 == 1) && (r122.2.1 == 2)))], []⟩) (by as_aux_lemma => kernel_rfl) (by rfl) ?_
  intro a hS
  refine takeM (tc := 88) (b := ((r122.1 == 1) && (r122.2.1 == 2))) (f := fun c => ⟨[(1, V (.slice (some ⟨b101, 0, none⟩) [(⟨0, 0⟩ : Api_Pick), (⟨1, 1⟩ : Api_Pick)].length 2)), (6, I r144.2.1), (7, I r144.2.2), (8, V (.slice a167 r166.1.length c168)), (9, I r166.2), (11, I r191.2), (12, I r205.1), (13, I r205.2), (15, I r216.2), (16, I r238.1), (18, I r238.2.2), (21, I r256.2.2), (91, B (c && (r122.2.2 == 0)))], []⟩) T [7, 8, 9] [] [1, 6, 7, 8, 9, 11, 12, 13, 15, 16, 18, 21, 91] hS (by kernel_rfl) (by kernel_rfl) (by kernel_rfl) (by kernel_rfl) hH (listed' := #[true, true, true, true, true, true, true, true, true, true, false, false, false, false, false, false, false, false, false, false, false, false, false, false, false, false, false, false, false, false, false, false, false, false, false, false, false, false, false, false, false, false, false, false, false, false, false, false, false, false, false, false, false, false, false, false, false, false, false, false, false, false, false, false, false, false, false, false, false, false, false, false, false]) (fuel := 63) (by kernel_rfl) (by kernel_rfl) (by rfl) ?_
  intro a hS
  refine take T [10] [] [1, 6, 7, 8, 9, 11, 12, 13, 15, 16, 18, 21, 92] hS (by kernel_rfl) (by kernel_rfl) (by kernel_rfl) hH (listed' := #[true, true, true, true, true, true, true, true, true, true, true, false, false, false, false, false, false, false, false, false, false, false, false, false, false, false, false, false, false, false, false, false, false, false, false, false, false, false, false, false, false, false, false, false, false, false, false, false, false, false, false, false, false, false, false, false, false, false, false, false, false, false, false, false, false, false, false, false, false, false, false, false, false]) (fuel := 62) (sy' := ⟨[(1, V (.slice (some ⟨b101, 0, none⟩) [(⟨0, 0⟩ : Api_Pick), (⟨1, 1⟩ : Api_Pick)].length 2)), (6, I r144.2.1), (7, I r144.2.2), (8, V (.slice a167 r166.1.length c168)), (9, I r166.2), (11, I r191.2), (12, I r205.1), (13, I r205.2), (15, I r216.2), (16, I r238.1), (18, I r238.2.2), (21, I r256.2.2), (92, B (((r122.1 == 1) && (r122.2.1 == 2)) && (r122.2.2 == 0)))], []⟩) (by as_aux_lemma => kernel_rfl) (by rfl) ?_
  intro a hS
  refine takeM (tc := 92) (b := (((r122.1 == 1) && (r122.2.1 == 2)) && (r122.2.2 == 0))) (f := fun c => ⟨[(1, V (.slice (some ⟨b101, 0, none⟩) [(⟨0, 0⟩ : Api_Pick), (⟨1, 1⟩ : Api_Pick)].length 2)), (7, I r144.2.2), (8, V (.slice a167 r166.1.length c168)), (9, I r166.2), (11, I r191.2), (12, I r205.1), (13, I r205.2), (15, I r216.2), (16, I r238.1), (18, I r238.2.2), (21, I r256.2.2), (95, B (c && (r144.2.1 == 0)))], []⟩) T [11, 12, 13] [] [1, 7, 8, 9, 11, 12, 13, 15, 16, 18, 21, 95] hS (by kernel_rfl) (by kernel_rfl) (by kernel_rfl) (by kernel_rfl) hH (listed' := #[true, true, true, true, true, true, true, true, true, true, true, true, true, true, false, false, false, false, false, false, false, false, false, false, false, false, false, false, false, false, false, false, false, false, false, false, false, false, false, false, false, false, false, false, false, false, false, false, false, false, false, false, false, false, false, false, false, false, false, false, false, false, false, false, false, false, false, false, false, false, false, false, false]) (fuel := 59) (by kernel_rfl) (by kernel_rfl) (by rfl) ?_
  intro a hS
  refine take T [14] [] [1, 7, 8, 9, 11, 12, 13, 15, 16, 18, 21, 96] hS (by kernel_rfl) (by kernel_rfl) (by kernel_rfl) hH (listed' := #[true, true, true, true, true, true, true, true, true, true, true, true, true, true, true, false, false, false, false, false, false, false, false, false, false, false, false, false, false, false, false, false, false, false, false, false, false, false, false, false, false, false, false, false, false, false, false, false, false, false, false, false, false, false, false, false, false, false, false, false, false, false, false, false, false, false, false, false, false, false, false, false, false]) (fuel := 58) (sy' := ⟨[(1, V (.slice (some ⟨b101, 0, none⟩) [(⟨0, 0⟩ : Api_Pick), (⟨1, 1⟩ : Api_Pick)].length 2)), (7, I r144.2.2), (8, V (.slice a167 r166.1.length c168)), (9, I r166.2), (11, I r191.2), (12, I r205.1), (13, I r205.2), (15, I r216.2), (16, I r238.1), (18, I r238.2.2), (21, I r256.2.2), (96, B ((((r122.1 == 1) && (r122.2.1 == 2)) && (r122.2.2 == 0)) && (r144.2.1 == 0)))], []⟩) (by as_aux_lemma => kernel_rfl) (by rfl) ?_
  intro a hS
  refine takeM (tc := 96) (b := ((((r122.1 == 1) && (r122.2.1 == 2)) && (r122.2.2 == 0)) && (r144.2.1 == 0))) (f := fun c => ⟨[(1, V (.slice (some ⟨b101, 0, none⟩) [(⟨0, 0⟩ : Api_Pick), (⟨1, 1⟩ : Api_Pick)].length 2)), (8, V (.slice a167 r166.1.length c168)), (9, I r166.2), (11, I r191.2), (12, I r205.1), (13, I r205.2), (15, I r216.2), (16, I r238.1), (18, I r238.2.2), (21, I r256.2.2), (99, B (c && (r144.2.2 == 40)))], []⟩) T [15, 16, 17] [] [1, 8, 9, 11, 12, 13, 15, 16, 18, 21, 99] hS (by kernel_rfl) (by kernel_rfl) (by kernel_rfl) (by kernel_rfl) hH (listed' := #[true, true, true, true, true, true, true, true, true, true, true, true, true, true, true, true, true, true, false, false, false, false, false, false, false, false, false, false, false, false, false, false, false, false, false, false, false, false, false, false, false, false, false, false, false, false, false, false, false, false, false, false, false, false, false, false, false, false, false, false, false, false, false, false, false, false, false, false, false, false, false, false, false]) (fuel := 55) (by kernel_rfl) (by kernel_rfl) (by rfl) ?_
  intro a hS
  refine take T [18] [] [1, 8, 9, 11, 12, 13, 15, 16, 18, 21, 100] hS (by kernel_rfl) (by kernel_rfl) (by kernel_rfl) hH (listed' := #[true, true, true, true, true, true, true, true, true, true, true, true, true, true, true, true, true, true, true, false, false, false, false, false, false, false, false, false, false, false, false, false, false, false, false, false, false, false, false, false, false, false, false, false, false, false, false, false, false, false, false, false, false, false, false, false, false, false, false, false, false, false, false, false, false, false, false, false, false, false, false, false, false]) (fuel := 54) (sy' := ⟨[(1, V (.slice (some ⟨b101, 0, none⟩) [(⟨0, 0⟩ : Api_Pick), (⟨1, 1⟩ : Api_Pick)].length 2)), (8, V (.slice a167 r166.1.length c168)), (9, I r166.2), (11, I r191.2), (12, I r205.1), (13, I r205.2), (15, I r216.2), (16, I r238.1), (18, I r238.2.2), (21, I r256.2.2), (100, B (((((r122.1 == 1) && (r122.2.1 == 2)) && (r122.2.2 == 0)) && (r144.2.1 == 0)) && (r144.2.2 == 40)))], []⟩) (by as_aux_lemma => kernel_rfl) (by rfl) ?_
  intro a hS
  rcases Bool.eq_false_or_eq_true (((((r122.1 == 1) && (r122.2.1 == 2)) && (r122.2.2 == 0)) && (r144.2.1 == 0)) && (r144.2.2 == 40)) with hb | hb
  · replace hS := hS.lit (t := 100) (by kernel_rfl) hb
    replace hm := hm.1 hb
    refine take T [19, 20] [] [1, 9, 11, 12, 13, 15, 16, 18, 21, 100, 101, 102] hS (by kernel_rfl) (by kernel_rfl) (by kernel_rfl) hH (listed' := #[true, true, true, true, true, true, true, true, true, true, true, true, true, true, true, true, true, true, true, true, true, false, false, false, false, false, false, false, false, false, false, false, false, false, false, false, false, false, false, false, false, false, false, false, false, false, false, false, false, false, false, false, false, false, false, false, false, false, false, false, false, false, false, false, false, false, false, false, false, false, false, false, false]) (fuel := 52) (sy' := ⟨[(1, V (.slice (some ⟨b101, 0, none⟩) [(⟨0, 0⟩ : Api_Pick), (⟨1, 1⟩ : Api_Pick)].length 2)), (9, I r166.2), (11, I r191.2), (12, I r205.1), (13, I r205.2), (15, I r216.2), (16, I r238.1), (18, I r238.2.2), (21, I r256.2.2), (100, B true), (101, V (.slice a167 r166.1.length c168)), (102, V (.slice (some ⟨b101, 0, none⟩) [(⟨0, 0⟩ : Api_Pick), (⟨1, 1⟩ : Api_Pick)].length 2))], []⟩) (by as_aux_lemma => kernel_rfl) (by rfl) ?_
    intro a hS
    refine only 21 (by kernel_rfl) (by rfl) (call hS (by kernel_rfl) (by kernel_rfl) hb24 (by kernel_rfl) (fun _ _ => rfl) (k24 _ _ r166.1 [(⟨0, 0⟩ : Api_Pick), (⟨1, 1⟩ : Api_Pick)] a167 c168 (some ⟨b101, 0, none⟩) 2 h169 h104) ?_)
    intro v258 a w259 χ260 hE hp hS
    replace hO := hO.mv hE rfl rfl
    replace hD := hD.ev hE rfl
    replace h104 := h104.mv hE rfl
    replace h169 := h169.mv hE rfl
    clear hE
    obtain ⟨r261, hr⟩ : ∃ r, ref28_Same r166.1 [(⟨0, 0⟩ : Api_Pick), (⟨1, 1⟩ : Api_Pick)] = r := ⟨_, rfl⟩
    replace hm := hm r261 hr
    rw [hr] at hp
    clear hr
    subst hp
    refine andH (Hold.of hS (bks := []) (by kernel_rfl) hD) ?_
    intro hH
    refine take T [22, 23] [] [1, 9, 11, 12, 13, 15, 16, 18, 21, 105] hS (by kernel_rfl) (by kernel_rfl) (by kernel_rfl) hH (listed' := #[true, true, true, true, true, true, true, true, true, true, true, true, true, true, true, true, true, true, true, true, true, true, true, true, false, false, false, false, false, false, false, false, false, false, false, false, false, false, false, false, false, false, false, false, false, false, false, false, false, false, false, false, false, false, false, false, false, false, false, false, false, false, false, false, false, false, false, false, false, false, false, false, false]) (fuel := 49) (sy' := ⟨[(1, V (.slice (some ⟨b101, 0, none⟩) [(⟨0, 0⟩ : Api_Pick), (⟨1, 1⟩ : Api_Pick)].length 2)), (9, I r166.2), (11, I r191.2), (12, I r205.1), (13, I r205.2), (15, I r216.2), (16, I r238.1), (18, I r238.2.2), (21, I r256.2.2), (105, B r261)], []⟩) (by as_aux_lemma => kernel_rfl) (by rfl) ?_
    intro a hS
    refine takeM (tc := 105) (b := r261) (f := fun c => ⟨[(1, V (.slice (some ⟨b101, 0, none⟩) [(⟨0, 0⟩ : Api_Pick), (⟨1, 1⟩ : Api_Pick)].length 2)), (11, I r191.2), (12, I r205.1), (13, I r205.2), (15, I r216.2), (16, I r238.1), (18, I r238.2.2), (21, I r256.2.2), (108, B (c && (r166.2 == 0)))], []⟩) T [24, 25, 26] [] [1, 11, 12, 13, 15, 16, 18, 21, 108] hS (by kernel_rfl) (by kernel_rfl) (by kernel_rfl) (by kernel_rfl) hH (listed' := #[true, true, true, true, true, true, true, true, true, true, true, true, true, true, true, true, true, true, true, true, true, true, true, true, true, true, true, false, false, false, false, false, false, false, false, false, false, false, false, false, false, false, false, false, false, false, false, false, false, false, false, false, false, false, false, false, false, false, false, false, false, false, false, false, false, false, false, false, false, false, false, false, false]) (fuel := 46) (by kernel_rfl) (by kernel_rfl) (by rfl) ?_
    intro a hS
    refine take T [27] [] [1, 11, 12, 13, 15, 16, 18, 21, 109] hS (by kernel_rfl) (by kernel_rfl) (by kernel_rfl) hH (listed' := #[true, true, true, true, true, true, true, true, true, true, true, true, true, true, true, true, true, true, true, true, true, true, true, true, true, true, true, true, false, false, false, false, false, false, false, false, false, false, false, false, false, false, false, false, false, false, false, false, false, false, false, false, false, false, false, false, false, false, false, false, false, false, false, false, false, false, false, false, false, false, false, false, false]) (fuel := 45) (sy' := ⟨[(1, V (.slice (some ⟨b101, 0, none⟩) [(⟨0, 0⟩ : Api_Pick), (⟨1, 1⟩ : Api_Pick)].length 2)), (11, I r191.2), (12, I r205.1), (13, I r205.2), (15, I r216.2), (16, I r238.1), (18, I r238.2.2), (21, I r256.2.2), (109, B (r261 && (r166.2 == 0)))], []⟩) (by as_aux_lemma => kernel_rfl) (by rfl) ?_
    intro a hS
    refine takeM (tc := 109) (b := (r261 && (r166.2 == 0))) (f := fun c => ⟨[(1, V (.slice (some ⟨b101, 0, none⟩) [(⟨0, 0⟩ : Api_Pick), (⟨1, 1⟩ : Api_Pick)].length 2)), (12, I r205.1), (13, I r205.2), (15, I r216.2), (16, I r238.1), (18, I r238.2.2), (21, I r256.2.2), (112, B (c && (r191.2 == 40)))], []⟩) T [28, 29, 30] [] [1, 12, 13, 15, 16, 18, 21, 112] hS (by kernel_rfl) (by kernel_rfl) (by kernel_rfl) (by kernel_rfl) hH (listed' := #[true, true, true, true, true, true, true, true, true, true, true, true, true, true, true, true, true, true, true, true, true, true, true, true, true, true, true, true, true, true, true, false, false, false, false, false, false, false, false, false, false, false, false, false, false, false, false, false, false, false, false, false, false, false, false, false, false, false, false, false, false, false, false, false, false, false, false, false, false, false, false, false, false]) (fuel := 42) (by kernel_rfl) (by kernel_rfl) (by rfl) ?_
    intro a hS
    refine take T [31] [] [1, 12, 13, 15, 16, 18, 21, 113] hS (by kernel_rfl) (by kernel_rfl) (by kernel_rfl) hH (listed' := #[true, true, true, true, true, true, true, true, true, true, true, true, true, true, true, true, true, true, true, true, true, true, true, true, true, true, true, true, true, true, true, true, false, false, false, false, false, false, false, false, false, false, false, false, false, false, false, false, false, false, false, false, false, false, false, false, false, false, false, false, false, false, false, false, false, false, false, false, false, false, false, false, false]) (fuel := 41) (sy' := ⟨[(1, V (.slice (some ⟨b101, 0, none⟩) [(⟨0, 0⟩ : Api_Pick), (⟨1, 1⟩ : Api_Pick)].length 2)), (12, I r205.1), (13, I r205.2), (15, I r216.2), (16, I r238.1), (18, I r238.2.2), (21, I r256.2.2), (113, B ((r261 && (r166.2 == 0)) && (r191.2 == 40)))], []⟩) (by as_aux_lemma => kernel_rfl) (by rfl) ?_
    intro a hS
    refine takeM (tc := 113) (b := ((r261 && (r166.2 == 0)) && (r191.2 == 40))) (f := fun c => ⟨[(1, V (.slice (some ⟨b101, 0, none⟩) [(⟨0, 0⟩ : Api_Pick), (⟨1, 1⟩ : Api_Pick)].length 2)), (13, I r205.2), (15, I r216.2), (16, I r238.1), (18, I r238.2.2), (21, I r256.2.2), (116, B (c && (r205.1 == 1)))], []⟩) T [32, 33, 34] [] [1, 13, 15, 16, 18, 21, 116] hS (by kernel_rfl) (by kernel_rfl) (by kernel_rfl) (by kernel_rfl) hH (listed' := #[true, true, true, true, true, true, true, true, true, true, true, true, true, true, true, true, true, true, true, true, true, true, true, true, true, true, true, true, true, true, true, true, true, true, true, false, false, false, false, false, false, false, false, false, false, false, false, false, false, false, false, false, false, false, false, false, false, false, false, false, false, false, false, false, false, false, false, false, false, false, false, false, false]) (fuel := 38) (by kernel_rfl) (by kernel_rfl) (by rfl) ?_
    intro a hS
    refine take T [35] [] [1, 13, 15, 16, 18, 21, 117] hS (by kernel_rfl) (by kernel_rfl) (by kernel_rfl) hH (listed' := #[true, true, true, true, true, true, true, true, true, true, true, true, true, true, true, true, true, true, true, true, true, true, true, true, true, true, true, true, true, true, true, true, true, true, true, true, false, false, false, false, false, false, false, false, false, false, false, false, false, false, false, false, false, false, false, false, false, false, false, false, false, false, false, false, false, false, false, false, false, false, false, false, false]) (fuel := 37) (sy' := ⟨[(1, V (.slice (some ⟨b101, 0, none⟩) [(⟨0, 0⟩ : Api_Pick), (⟨1, 1⟩ : Api_Pick)].length 2)), (13, I r205.2), (15, I r216.2), (16, I r238.1), (18, I r238.2.2), (21, I r256.2.2), (117, B (((r261 && (r166.2 == 0)) && (r191.2 == 40)) && (r205.1 == 1)))], []⟩) (by as_aux_lemma => kernel_rfl) (by rfl) ?_
    intro a hS
    refine takeM (tc := 117) (b := (((r261 && (r166.2 == 0)) && (r191.2 == 40)) && (r205.1 == 1))) (f := fun c => ⟨[(1, V (.slice (some ⟨b101, 0, none⟩) [(⟨0, 0⟩ : Api_Pick), (⟨1, 1⟩ : Api_Pick)].length 2)), (15, I r216.2), (16, I r238.1), (18, I r238.2.2), (21, I r256.2.2), (120, B (c && (r205.2 == 0)))], []⟩) T [36, 37, 38] [] [1, 15, 16, 18, 21, 120] hS (by kernel_rfl) (by kernel_rfl) (by kernel_rfl) (by kernel_rfl) hH (listed' := #[true, true, true, true, true, true, true, true, true, true, true, true, true, true, true, true, true, true, true, true, true, true, true, true, true, true, true, true, true, true, true, true, true, true, true, true, true, true, true, false, false, false, false, false, false, false, false, false, false, false, false, false, false, false, false, false, false, false, false, false, false, false, false, false, false, false, false, false, false, false, false, false, false]) (fuel := 34) (by kernel_rfl) (by kernel_rfl) (by rfl) ?_
    intro a hS
    refine take T [39] [] [1, 15, 16, 18, 21, 121] hS (by kernel_rfl) (by kernel_rfl) (by kernel_rfl) hH (listed' := #[true, true, true, true, true, true, true, true, true, true, true, true, true, true, true, true, true, true, true, true, true, true, true, true, true, true, true, true, true, true, true, true, true, true, true, true, true, true, true, true, false, false, false, false, false, false, false, false, false, false, false, false, false, false, false, false, false, false, false, false, false, false, false, false, false, false, false, false, false, false, false, false, false]) (fuel := 33) (sy' := ⟨[(1, V (.slice (some ⟨b101, 0, none⟩) [(⟨0, 0⟩ : Api_Pick), (⟨1, 1⟩ : Api_Pick)].length 2)), (15, I r216.2), (16, I r238.1), (18, I r238.2.2), (21, I r256.2.2), (121, B ((((r261 && (r166.2 == 0)) && (r191.2 == 40)) && (r205.1 == 1)) && (r205.2 == 0)))], []⟩) (by as_aux_lemma => kernel_rfl) (by rfl) ?_
    intro a hS
    refine takeM (tc := 121) (b := ((((r261 && (r166.2 == 0)) && (r191.2 == 40)) && (r205.1 == 1)) && (r205.2 == 0))) (f := fun c => ⟨[(1, V (.slice (some ⟨b101, 0, none⟩) [(⟨0, 0⟩ : Api_Pick), (⟨1, 1⟩ : Api_Pick)].length 2)), (16, I r238.1), (18, I r238.2.2), (21, I r256.2.2), (124, B (c && (r216.2 == 30)))], []⟩) T [40, 41, 42] [] [1, 16, 18, 21, 124] hS (by kernel_rfl) (by kernel_rfl) (by kernel_rfl) (by kernel_rfl) hH (listed' := #[true, true, true, true, true, true, true, true, true, true, true, true, true, true, true, true, true, true, true, true, true, true, true, true, true, true, true, true, true, true, true, true, true, true, true, true, true, true, true, true, true, true, true, false, false, false, false, false, false, false, false, false, false, false, false, false, false, false, false, false, false, false, false, false, false, false, false, false, false, false, false, false, false]) (fuel := 30) (by kernel_rfl) (by kernel_rfl) (by rfl) ?_
    intro a hS
    refine take T [43] [] [1, 16, 18, 21, 125] hS (by kernel_rfl) (by kernel_rfl) (by kernel_rfl) hH (listed' := #[true, true, true, true, true, true, true, true, true, true, true, true, true, true, true, true, true, true, true, true, true, true, true, true, true, true, true, true, true, true, true, true, true, true, true, true, true, true, true, true, true, true, true, true, false, false, false, false, false, false, false, false, false, false, false, false, false, false, false, false, false, false, false, false, false, false, false, false, false, false, false, false, false]) (fuel := 29) (sy' := ⟨[(1, V (.slice (some ⟨b101, 0, none⟩) [(⟨0, 0⟩ : Api_Pick), (⟨1, 1⟩ : Api_Pick)].length 2)), (16, I r238.1), (18, I r238.2.2), (21, I r256.2.2), (125, B (((((r261 && (r166.2 == 0)) && (r191.2 == 40)) && (r205.1 == 1)) && (r205.2 == 0)) && (r216.2 == 30)))], []⟩) (by as_aux_lemma => kernel_rfl) (by rfl) ?_
    intro a hS
    refine takeM (tc := 125) (b := (((((r261 && (r166.2 == 0)) && (r191.2 == 40)) && (r205.1 == 1)) && (r205.2 == 0)) && (r216.2 == 30))) (f := fun c => ⟨[(1, V (.slice (some ⟨b101, 0, none⟩) [(⟨0, 0⟩ : Api_Pick), (⟨1, 1⟩ : Api_Pick)].length 2)), (18, I r238.2.2), (21, I r256.2.2), (128, B (c && (r238.1 == 1)))], []⟩) T [44, 45, 46] [] [1, 18, 21, 128] hS (by kernel_rfl) (by kernel_rfl) (by kernel_rfl) (by kernel_rfl) hH (listed' := #[true, true, true, true, true, true, true, true, true, true, true, true, true, true, true, true, true, true, true, true, true, true, true, true, true, true, true, true, true, true, true, true, true, true, true, true, true, true, true, true, true, true, true, true, true, true, true, false, false, false, false, false, false, false, false, false, false, false, false, false, false, false, false, false, false, false, false, false, false, false, false, false, false]) (fuel := 26) (by kernel_rfl) (by kernel_rfl) (by rfl) ?_
    intro a hS
    refine take T [47] [] [1, 18, 21, 129] hS (by kernel_rfl) (by kernel_rfl) (by kernel_rfl) hH (listed' := #[true, true, true, true, true, true, true, true, true, true, true, true, true, true, true, true, true, true, true, true, true, true, true, true, true, true, true, true, true, true, true, true, true, true, true, true, true, true, true, true, true, true, true, true, true, true, true, true, false, false, false, false, false, false, false, false, false, false, false, false, false, false, false, false, false, false, false, false, false, false, false, false, false]) (fuel := 25) (sy' := ⟨[(1, V (.slice (some ⟨b101, 0, none⟩) [(⟨0, 0⟩ : Api_Pick), (⟨1, 1⟩ : Api_Pick)].length 2)), (18, I r238.2.2), (21, I r256.2.2), (129, B ((((((r261 && (r166.2 == 0)) && (r191.2 == 40)) && (r205.1 == 1)) && (r205.2 == 0)) && (r216.2 == 30)) && (r238.1 == 1)))], []⟩) (by as_aux_lemma => kernel_rfl) (by rfl) ?_
    intro a hS
    refine takeM (tc := 129) (b := ((((((r261 && (r166.2 == 0)) && (r191.2 == 40)) && (r205.1 == 1)) && (r205.2 == 0)) && (r216.2 == 30)) && (r238.1 == 1))) (f := fun c => ⟨[(1, V (.slice (some ⟨b101, 0, none⟩) [(⟨0, 0⟩ : Api_Pick), (⟨1, 1⟩ : Api_Pick)].length 2)), (21, I r256.2.2), (132, B (c && (r238.2.2 == 0)))], []⟩) T [48, 49, 50] [] [1, 21, 132] hS (by kernel_rfl) (by kernel_rfl) (by kernel_rfl) (by kernel_rfl) hH (listed' := #[true, true, true, true, true, true, true, true, true, true, true, true, true, true, true, true, true, true, true, true, true, true, true, true, true, true, true, true, true, true, true, true, true, true, true, true, true, true, true, true, true, true, true, true, true, true, true, true, true, true, true, false, false, false, false, false, false, false, false, false, false, false, false, false, false, false, false, false, false, false, false, false, false]) (fuel := 22) (by kernel_rfl) (by kernel_rfl) (by rfl) ?_
    intro a hS
    refine take T [51] [] [1, 21, 133] hS (by kernel_rfl) (by kernel_rfl) (by kernel_rfl) hH (listed' := #[true, true, true, true, true, true, true, true, true, true, true, true, true, true, true, true, true, true, true, true, true, true, true, true, true, true, true, true, true, true, true, true, true, true, true, true, true, true, true, true, true, true, true, true, true, true, true, true, true, true, true, true, false, false, false, false, false, false, false, false, false, false, false, false, false, false, false, false, false, false, false, false, false]) (fuel := 21) (sy' := ⟨[(1, V (.slice (some ⟨b101, 0, none⟩) [(⟨0, 0⟩ : Api_Pick), (⟨1, 1⟩ : Api_Pick)].length 2)), (21, I r256.2.2), (133, B (((((((r261 && (r166.2 == 0)) && (r191.2 == 40)) && (r205.1 == 1)) && (r205.2 == 0)) && (r216.2 == 30)) && (r238.1 == 1)) && (r238.2.2 == 0)))], []⟩) (by as_aux_lemma => kernel_rfl) (by rfl) ?_
    intro a hS
    refine takeM (tc := 133) (b := (((((((r261 && (r166.2 == 0)) && (r191.2 == 40)) && (r205.1 == 1)) && (r205.2 == 0)) && (r216.2 == 30)) && (r238.1 == 1)) && (r238.2.2 == 0))) (f := fun c => ⟨[(1, V (.slice (some ⟨b101, 0, none⟩) [(⟨0, 0⟩ : Api_Pick), (⟨1, 1⟩ : Api_Pick)].length 2)), (136, B (c && (r256.2.2 == 30)))], []⟩) T [52, 53, 54] [] [1, 136] hS (by kernel_rfl) (by kernel_rfl) (by kernel_rfl) (by kernel_rfl) hH (listed' := #[true, true, true, true, true, true, true, true, true, true, true, true, true, true, true, true, true, true, true, true, true, true, true, true, true, true, true, true, true, true, true, true, true, true, true, true, true, true, true, true, true, true, true, true, true, true, true, true, true, true, true, true, true, true, true, false, false, false, false, false, false, false, false, false, false, false, false, false, false, false, false, false, false]) (fuel := 18) (by kernel_rfl) (by kernel_rfl) (by rfl) ?_
    intro a hS
    refine take T [55] [] [1, 137] hS (by kernel_rfl) (by kernel_rfl) (by kernel_rfl) hH (listed' := #[true, true, true, true, true, true, true, true, true, true, true, true, true, true, true, true, true, true, true, true, true, true, true, true, true, true, true, true, true, true, true, true, true, true, true, true, true, true, true, true, true, true, true, true, true, true, true, true, true, true, true, true, true, true, true, true, false, false, false, false, false, false, false, false, false, false, false, false, false, false, false, false, false]) (fuel := 17) (sy' := ⟨[(1, V (.slice (some ⟨b101, 0, none⟩) [(⟨0, 0⟩ : Api_Pick), (⟨1, 1⟩ : Api_Pick)].length 2)), (137, B ((((((((r261 && (r166.2 == 0)) && (r191.2 == 40)) && (r205.1 == 1)) && (r205.2 == 0)) && (r216.2 == 30)) && (r238.1 == 1)) && (r238.2.2 == 0)) && (r256.2.2 == 30)))], []⟩) (by as_aux_lemma => kernel_rfl) (by rfl) ?_
    intro a hS
    rcases Bool.eq_false_or_eq_true ((((((((r261 && (r166.2 == 0)) && (r191.2 == 40)) && (r205.1 == 1)) && (r205.2 == 0)) && (r216.2 == 30)) && (r238.1 == 1)) && (r238.2.2 == 0)) && (r256.2.2 == 30)) with hb | hb
    · replace hS := hS.lit (t := 137) (by kernel_rfl) hb
      replace hm := hm.1 hb
      refine take T [58] [] [1, 137, 140] hS (by kernel_rfl) (by kernel_rfl) (by kernel_rfl) hH (listed' := #[true, true, true, true, true, true, true, true, true, true, true, true, true, true, true, true, true, true, true, true, true, true, true, true, true, true, true, true, true, true, true, true, true, true, true, true, true, true, true, true, true, true, true, true, true, true, true, true, true, true, true, true, true, true, true, true, false, false, true, false, false, false, false, false, false, false, false, false, false, false, false, false, false]) (fuel := 16) (sy' := ⟨[(1, V (.slice (some ⟨b101, 0, none⟩) [(⟨0, 0⟩ : Api_Pick), (⟨1, 1⟩ : Api_Pick)].length 2)), (137, B true), (140, V (.slice (some ⟨b101, 0, none⟩) [(⟨0, 0⟩ : Api_Pick), (⟨1, 1⟩ : Api_Pick)].length 2))], []⟩) (by as_aux_lemma => kernel_rfl) (by rfl) ?_
      intro a hS
      refine anyOf (is := [56, 60]) (by kernel_rfl) (by decide) ?_
      intro i hi
      rcases mem2 hi with rfl | rfl
      · refine oneOp (by rfl) (call hS (by kernel_rfl) (by kernel_rfl) hb41 (by kernel_rfl) (fun _ _ => rfl) (k41 _ _) ?_)
        intro v262 a w263 χ264 hE hp hS
        replace hO := hO.mv hE rfl rfl
        replace hD := hD.ev hE rfl
        replace h104 := h104.mv hE rfl
        replace h169 := h169.mv hE rfl
        clear hE
        obtain ⟨a266, c267, hp, h268⟩ := hp
        obtain ⟨r265, hr⟩ : ∃ r, law28_flag = r := ⟨_, rfl⟩
        replace hm := hm r265 hr
        rw [hr] at hp h268
        clear hr
        subst hp
        replace hm := hm (h268.sm (by kernel_rfl))
        refine andH (Hold.of hS (bks := []) (by kernel_rfl) hD) ?_
        intro hH
        refine anyOf (is := [57, 60]) (by kernel_rfl) (by decide) ?_
        intro i hi
        rcases mem2 hi with rfl | rfl
        · refine oneOp (by rfl) (call hS (by kernel_rfl) (by kernel_rfl) hb42 (by kernel_rfl) (fun _ _ => rfl) (k42 _ _) ?_)
          intro v269 a w270 χ271 hE hp hS
          replace hO := hO.mv hE rfl rfl
          replace hD := hD.ev hE rfl
          replace h104 := h104.mv hE rfl
          replace h169 := h169.mv hE rfl
          replace h268 := h268.mv hE rfl
          clear hE
          obtain ⟨a273, c274, hp, h275⟩ := hp
          obtain ⟨r272, hr⟩ : ∃ r, law28_ops = r := ⟨_, rfl⟩
          replace hm := hm r272 hr
          rw [hr] at hp h275
          clear hr
          subst hp
          replace hm := hm (h275.sm (by kernel_rfl))
          refine andH (Hold.of hS (bks := []) (by kernel_rfl) hD) ?_
          intro hH
          refine anyOf (is := [59, 60]) (by kernel_rfl) (by decide) ?_
          intro i hi
          rcases mem2 hi with rfl | rfl
          · obtain ⟨hq, hm⟩ := hm
            refine oneOp (by rfl) (call hS (by kernel_rfl) (by kernel_rfl) hb20 (by kernel_rfl) (fun _ _ => rfl) (k20 _ _ r265 r272 [(⟨0, 0⟩ : Api_Pick), (⟨1, 1⟩ : Api_Pick)] a266 c267 a273 c274 (some ⟨b101, 0, none⟩) 2 hq h268 h275 h104) ?_)
            intro v276 a w277 χ278 hE hp hS
            clear hq
            replace hO := hO.mv hE rfl rfl
            replace hD := hD.ev hE rfl
            replace h104 := h104.mv hE rfl
            replace h169 := h169.mv hE rfl
            replace h268 := h268.mv hE rfl
            replace h275 := h275.mv hE rfl
            clear hE
            obtain ⟨a280, c281, hp, h282⟩ := hp
            obtain ⟨r279, hr⟩ : ∃ r, run_States r265 r272 [(⟨0, 0⟩ : Api_Pick), (⟨1, 1⟩ : Api_Pick)] = r := ⟨_, rfl⟩
            replace hm := hm r279 hr
            rw [hr] at hp h282
            clear hr
            subst hp
            replace hm := hm (h282.sm (by kernel_rfl))
            refine andH (Hold.of hS (bks := []) (by kernel_rfl) hD) ?_
            intro hH
            refine only 60 (by kernel_rfl) (by rfl) (lit (E := 3) (col := 0) (T := tI) (vals := [.int .i64 0, .int .i64 1, .int .i64 1]) (ys := [0, 1, 1]) T hS (by kernel_rfl) (by kernel_rfl) (by kernel_rfl) (by kernel_rfl) (by exact ⟨rfl, rfl, rfl, trivial⟩) rfl (by kernel_rfl) (by kernel_rfl) (by kernel_rfl) (by kernel_rfl) ?_)
            intro b283 a w284 χ285 hE h286 hN hS
            clear hN
            replace hO := hO.mv hE rfl rfl
            replace hD := hD.ev hE rfl
            replace h104 := h104.mv hE rfl
            replace h169 := h169.mv hE rfl
            replace h268 := h268.mv hE rfl
            replace h275 := h275.mv hE rfl
            replace h282 := h282.mv hE rfl
            clear hE
            replace h286 := h286.rs0
            refine andH (Hold.of hS (bks := []) (by kernel_rfl) hD) ?_
            intro hH
            refine only 61 (by kernel_rfl) (by rfl) (call hS (by kernel_rfl) (by kernel_rfl) hb19 (by kernel_rfl) (fun _ _ => rfl) (k19 _ _ r279 [0, 1, 1] a280 c281 (some ⟨b283, 0, none⟩) 3 h282 h286) ?_)
            intro v287 a w288 χ289 hE hp hS
            replace hO := hO.mv hE rfl rfl
            replace hD := hD.ev hE rfl
            replace h104 := h104.mv hE rfl
            replace h169 := h169.mv hE rfl
            replace h268 := h268.mv hE rfl
            replace h275 := h275.mv hE rfl
            replace h282 := h282.mv hE rfl
            replace h286 := h286.mv hE rfl
            clear hE
            obtain ⟨r290, hr⟩ : ∃ r, ref01_SameInts r279 [0, 1, 1] = r := ⟨_, rfl⟩
            replace hm := hm r290 hr
            rw [hr] at hp
            clear hr
            subst hp
            refine andH (Hold.of hS (bks := []) (by kernel_rfl) hD) ?_
            intro hH
            refine take T [62, 63] [] [1, 145] hS (by kernel_rfl) (by kernel_rfl) (by kernel_rfl) hH (listed' := #[true, true, true, true, true, true, true, true, true, true, true, true, true, true, true, true, true, true, true, true, true, true, true, true, true, true, true, true, true, true, true, true, true, true, true, true, true, true, true, true, true, true, true, true, true, true, true, true, true, true, true, true, true, true, true, true, true, true, true, true, true, true, true, true, false, false, false, false, false, false, false, false, false]) (fuel := 9) (sy' := ⟨[(1, V (.slice (some ⟨b101, 0, none⟩) [(⟨0, 0⟩ : Api_Pick), (⟨1, 1⟩ : Api_Pick)].length 2)), (145, B r290)], []⟩) (by as_aux_lemma => kernel_rfl) (by rfl) ?_
            intro a hS
            rcases Bool.eq_false_or_eq_true r290 with hb | hb
            · replace hS := hS.lit (t := 145) (by kernel_rfl) hb
              replace hm := hm.1 hb
              refine take T [66] [] [145, 148] hS (by kernel_rfl) (by kernel_rfl) (by kernel_rfl) hH (listed' := #[true, true, true, true, true, true, true, true, true, true, true, true, true, true, true, true, true, true, true, true, true, true, true, true, true, true, true, true, true, true, true, true, true, true, true, true, true, true, true, true, true, true, true, true, true, true, true, true, true, true, true, true, true, true, true, true, true, true, true, true, true, true, true, true, false, false, true, false, false, false, false, false, false]) (fuel := 8) (sy' := ⟨[(145, B true), (148, V (.slice (some ⟨b101, 0, none⟩) [(⟨0, 0⟩ : Api_Pick), (⟨1, 1⟩ : Api_Pick)].length 2))], []⟩) (by as_aux_lemma => kernel_rfl) (by rfl) ?_
              intro a hS
              obtain ⟨hq, hm⟩ := hm
              refine dslice1 (E := 52) (kl := .i64) T 67 hS (by kernel_rfl) (by kernel_rfl) (by kernel_rfl) (by rfl) (by kernel_rfl) hH (by kernel_rfl) (by kernel_rfl) h104 (by kernel_rfl) (by kernel_rfl) hq.1 hq.2 ?_
              intro a291 c292 a h293 hS
              clear hq
              refine only 64 (by kernel_rfl) (by rfl) (call hS (by kernel_rfl) (by kernel_rfl) hb41 (by kernel_rfl) (fun _ _ => rfl) (k41 _ _) ?_)
              intro v294 a w295 χ296 hE hp hS
              replace hO := hO.mv hE rfl rfl
              replace hD := hD.ev hE rfl
              replace h104 := h104.mv hE rfl
              replace h169 := h169.mv hE rfl
              replace h268 := h268.mv hE rfl
              replace h275 := h275.mv hE rfl
              replace h282 := h282.mv hE rfl
              replace h286 := h286.mv hE rfl
              replace h293 := h293.mv hE rfl
              clear hE
              obtain ⟨a298, c299, hp, h300⟩ := hp
              obtain ⟨r297, hr⟩ : ∃ r, law28_flag = r := ⟨_, rfl⟩
              replace hm := hm r297 hr
              rw [hr] at hp h300
              clear hr
              subst hp
              replace hm := hm (h300.sm (by kernel_rfl))
              refine andH (Hold.of hS (bks := []) (by kernel_rfl) hD) ?_
              intro hH
              refine only 65 (by kernel_rfl) (by rfl) (call hS (by kernel_rfl) (by kernel_rfl) hb42 (by kernel_rfl) (fun _ _ => rfl) (k42 _ _) ?_)
              intro v301 a w302 χ303 hE hp hS
              replace hO := hO.mv hE rfl rfl
              replace hD := hD.ev hE rfl
              replace h104 := h104.mv hE rfl
              replace h169 := h169.mv hE rfl
              replace h268 := h268.mv hE rfl
              replace h275 := h275.mv hE rfl
              replace h282 := h282.mv hE rfl
              replace h286 := h286.mv hE rfl
              replace h293 := h293.mv hE rfl
              replace h300 := h300.mv hE rfl
              clear hE
              obtain ⟨a305, c306, hp, h307⟩ := hp
              obtain ⟨r304, hr⟩ : ∃ r, law28_ops = r := ⟨_, rfl⟩
              replace hm := hm r304 hr
              rw [hr] at hp h307
              clear hr
              subst hp
              replace hm := hm (h307.sm (by kernel_rfl))
              refine andH (Hold.of hS (bks := []) (by kernel_rfl) hD) ?_
              intro hH
              obtain ⟨hq, hm⟩ := hm
              refine only 68 (by kernel_rfl) (by rfl) (call hS (by kernel_rfl) (by kernel_rfl) hb20 (by kernel_rfl) (fun _ _ => rfl) (k20 _ _ r297 r304 ([(⟨0, 0⟩ : Api_Pick), (⟨1, 1⟩ : Api_Pick)].drop (1 : Int).toNat) a298 c299 a305 c306 a291 c292 hq h300 h307 h293) ?_)
              intro v308 a w309 χ310 hE hp hS
              clear hq
              replace hO := hO.mv hE rfl rfl
              replace hD := hD.ev hE rfl
              replace h104 := h104.mv hE rfl
              replace h169 := h169.mv hE rfl
              replace h268 := h268.mv hE rfl
              replace h275 := h275.mv hE rfl
              replace h282 := h282.mv hE rfl
              replace h286 := h286.mv hE rfl
              replace h293 := h293.mv hE rfl
              replace h300 := h300.mv hE rfl
              replace h307 := h307.mv hE rfl
              clear hE
              obtain ⟨a312, c313, hp, h314⟩ := hp
              obtain ⟨r311, hr⟩ : ∃ r, run_States r297 r304 ([(⟨0, 0⟩ : Api_Pick), (⟨1, 1⟩ : Api_Pick)].drop (1 : Int).toNat) = r := ⟨_, rfl⟩
              replace hm := hm r311 hr
              rw [hr] at hp h314
              clear hr
              subst hp
              replace hm := hm (h314.sm (by kernel_rfl))
              refine andH (Hold.of hS (bks := []) (by kernel_rfl) hD) ?_
              intro hH
              refine take T [69, 70, 71, 72] [] [0] hS (by kernel_rfl) (by kernel_rfl) (by kernel_rfl) hH (listed' := #[true, true, true, true, true, true, true, true, true, true, true, true, true, true, true, true, true, true, true, true, true, true, true, true, true, true, true, true, true, true, true, true, true, true, true, true, true, true, true, true, true, true, true, true, true, true, true, true, true, true, true, true, true, true, true, true, true, true, true, true, true, true, true, true, true, true, true, true, true, true, true, true, true]) (fuel := 0) (sy' := ⟨[(0, B (((r311.length : Nat) : Int) == 0))], []⟩) (by as_aux_lemma => kernel_rfl) (by rfl) ?_
              intro a hS
              refine drawnDone (by kernel_rfl) ?_
              clear hD hH
              replace hS := hS.sel [0] [] (sy' := ⟨[(0, B (((r311.length : Nat) : Int) == 0))], []⟩) (by kernel_rfl)
              refine wret ?_
              exact fin T hS hO (fun c => c) rfl (r := [.bool (((r311.length : Nat) : Int) == 0)]) (by kernel_rfl) (fun χ' hM hC => ⟨(((r311.length : Nat) : Int) == 0), hm, rfl⟩)
            · replace hS := hS.lit (t := 145) (by kernel_rfl) hb
              replace hm := hm.2 hb
              refine take T [64, 66, 65, 67, 68, 69, 70, 71, 72] [] [0] hS (by kernel_rfl) (by kernel_rfl) (by kernel_rfl) hH (listed' := #[true, true, true, true, true, true, true, true, true, true, true, true, true, true, true, true, true, true, true, true, true, true, true, true, true, true, true, true, true, true, true, true, true, true, true, true, true, true, true, true, true, true, true, true, true, true, true, true, true, true, true, true, true, true, true, true, true, true, true, true, true, true, true, true, true, true, true, true, true, true, true, true, true]) (fuel := 0) (sy' := ⟨[(0, B false)], []⟩) (by as_aux_lemma => kernel_rfl) (by rfl) ?_
              intro a hS
              refine drawnDone (by kernel_rfl) ?_
              clear hD hH
              replace hS := hS.sel [0] [] (sy' := ⟨[(0, B false)], []⟩) (by kernel_rfl)
              refine wret ?_
              exact fin T hS hO (fun c => c) rfl (r := [.bool false]) (by kernel_rfl) (fun χ' hM hC => ⟨false, hm, rfl⟩)
          · refine oneOp (by rfl) (lit (E := 3) (col := 0) (T := tI) (vals := [.int .i64 0, .int .i64 1, .int .i64 1]) (ys := [0, 1, 1]) T hS (by kernel_rfl) (by kernel_rfl) (by kernel_rfl) (by kernel_rfl) (by exact ⟨rfl, rfl, rfl, trivial⟩) rfl (by kernel_rfl) (by kernel_rfl) (by kernel_rfl) (by kernel_rfl) ?_)
            intro b315 a w316 χ317 hE h318 hN hS
            clear hN
            replace hO := hO.mv hE rfl rfl
            replace hD := hD.ev hE rfl
            replace h104 := h104.mv hE rfl
            replace h169 := h169.mv hE rfl
            replace h268 := h268.mv hE rfl
            replace h275 := h275.mv hE rfl
            clear hE
            replace h318 := h318.rs0
            refine andH (Hold.of hS (bks := []) (by kernel_rfl) hD) ?_
            intro hH
            obtain ⟨hq, hm⟩ := hm
            refine only 59 (by kernel_rfl) (by rfl) (call hS (by kernel_rfl) (by kernel_rfl) hb20 (by kernel_rfl) (fun _ _ => rfl) (k20 _ _ r265 r272 [(⟨0, 0⟩ : Api_Pick), (⟨1, 1⟩ : Api_Pick)] a266 c267 a273 c274 (some ⟨b101, 0, none⟩) 2 hq h268 h275 h104) ?_)
            intro v319 a w320 χ321 hE hp hS
            clear hq
            replace hO := hO.mv hE rfl rfl
            replace hD := hD.ev hE rfl
            replace h104 := h104.mv hE rfl
            replace h169 := h169.mv hE rfl
            replace h268 := h268.mv hE rfl
            replace h275 := h275.mv hE rfl
            replace h318 := h318.mv hE rfl
            clear hE
            obtain ⟨a323, c324, hp, h325⟩ := hp
            obtain ⟨r322, hr⟩ : ∃ r, run_States r265 r272 [(⟨0, 0⟩ : Api_Pick), (⟨1, 1⟩ : Api_Pick)] = r := ⟨_, rfl⟩
            replace hm := hm r322 hr
            rw [hr] at hp h325
            clear hr
            subst hp
            replace hm := hm (h325.sm (by kernel_rfl))
            refine andH (Hold.of hS (bks := []) (by kernel_rfl) hD) ?_
            intro hH
            refine only 61 (by kernel_rfl) (by rfl) (call hS (by kernel_rfl) (by kernel_rfl) hb19 (by kernel_rfl) (fun _ _ => rfl) (k19 _ _ r322 [0, 1, 1] a323 c324 (some ⟨b315, 0, none⟩) 3 h325 h318) ?_)
            intro v326 a w327 χ328 hE hp hS
            replace hO := hO.mv hE rfl rfl
            replace hD := hD.ev hE rfl
            replace h104 := h104.mv hE rfl
            replace h169 := h169.mv hE rfl
            replace h268 := h268.mv hE rfl
            replace h275 := h275.mv hE rfl
            replace h318 := h318.mv hE rfl
            replace h325 := h325.mv hE rfl
            clear hE
            obtain ⟨r329, hr⟩ : ∃ r, ref01_SameInts r322 [0, 1, 1] = r := ⟨_, rfl⟩
            replace hm := hm r329 hr
            rw [hr] at hp
            clear hr
            subst hp
            refine andH (Hold.of hS (bks := []) (by kernel_rfl) hD) ?_
            intro hH
            refine take T [62, 63] [] [1, 145] hS (by kernel_rfl) (by kernel_rfl) (by kernel_rfl) hH (listed' := #[true, true, true, true, true, true, true, true, true, true, true, true, true, true, true, true, true, true, true, true, true, true, true, true, true, true, true, true, true, true, true, true, true, true, true, true, true, true, true, true, true, true, true, true, true, true, true, true, true, true, true, true, true, true, true, true, true, true, true, true, true, true, true, true, false, false, false, false, false, false, false, false, false]) (fuel := 9) (sy' := ⟨[(1, V (.slice (some ⟨b101, 0, none⟩) [(⟨0, 0⟩ : Api_Pick), (⟨1, 1⟩ : Api_Pick)].length 2)), (145, B r329)], []⟩) (by as_aux_lemma => kernel_rfl) (by rfl) ?_
            intro a hS
            rcases Bool.eq_false_or_eq_true r329 with hb | hb
            · replace hS := hS.lit (t := 145) (by kernel_rfl) hb
              replace hm := hm.1 hb
              refine take T [66] [] [145, 148] hS (by kernel_rfl) (by kernel_rfl) (by kernel_rfl) hH (listed' := #[true, true, true, true, true, true, true, true, true, true, true, true, true, true, true, true, true, true, true, true, true, true, true, true, true, true, true, true, true, true, true, true, true, true, true, true, true, true, true, true, true, true, true, true, true, true, true, true, true, true, true, true, true, true, true, true, true, true, true, true, true, true, true, true, false, false, true, false, false, false, false, false, false]) (fuel := 8) (sy' := ⟨[(145, B true), (148, V (.slice (some ⟨b101, 0, none⟩) [(⟨0, 0⟩ : Api_Pick), (⟨1, 1⟩ : Api_Pick)].length 2))], []⟩) (by as_aux_lemma => kernel_rfl) (by rfl) ?_
              intro a hS
              obtain ⟨hq, hm⟩ := hm
              refine dslice1 (E := 52) (kl := .i64) T 67 hS (by kernel_rfl) (by kernel_rfl) (by kernel_rfl) (by rfl) (by kernel_rfl) hH (by kernel_rfl) (by kernel_rfl) h104 (by kernel_rfl) (by kernel_rfl) hq.1 hq.2 ?_
              intro a330 c331 a h332 hS
              clear hq
              refine only 64 (by kernel_rfl) (by rfl) (call hS (by kernel_rfl) (by kernel_rfl) hb41 (by kernel_rfl) (fun _ _ => rfl) (k41 _ _) ?_)
              intro v333 a w334 χ335 hE hp hS
              replace hO := hO.mv hE rfl rfl
              replace hD := hD.ev hE rfl
              replace h104 := h104.mv hE rfl
              replace h169 := h169.mv hE rfl
              replace h268 := h268.mv hE rfl
              replace h275 := h275.mv hE rfl
              replace h318 := h318.mv hE rfl
              replace h325 := h325.mv hE rfl
              replace h332 := h332.mv hE rfl
              clear hE
              obtain ⟨a337, c338, hp, h339⟩ := hp
              obtain ⟨r336, hr⟩ : ∃ r, law28_flag = r := ⟨_, rfl⟩
              replace hm := hm r336 hr
              rw [hr] at hp h339
              clear hr
              subst hp
              replace hm := hm (h339.sm (by kernel_rfl))
              refine andH (Hold.of hS (bks := []) (by kernel_rfl) hD) ?_
              intro hH
              refine only 65 (by kernel_rfl) (by rfl) (call hS (by kernel_rfl) (by kernel_rfl) hb42 (by kernel_rfl) (fun _ _ => rfl) (k42 _ _) ?_)
              intro v340 a w341 χ342 hE hp hS
              replace hO := hO.mv hE rfl rfl
              replace hD := hD.ev hE rfl
              replace h104 := h104.mv hE rfl
              replace h169 := h169.mv hE rfl
              replace h268 := h268.mv hE rfl
              replace h275 := h275.mv hE rfl
              replace h318 := h318.mv hE rfl
              replace h325 := h325.mv hE rfl
              replace h332 := h332.mv hE rfl
              replace h339 := h339.mv hE rfl
              clear hE
              obtain ⟨a344, c345, hp, h346⟩ := hp
              obtain ⟨r343, hr⟩ : ∃ r, law28_ops = r := ⟨_, rfl⟩
              replace hm := hm r343 hr
              rw [hr] at hp h346
              clear hr
              subst hp
              replace hm := hm (h346.sm (by kernel_rfl))
              refine andH (Hold.of hS (bks := []) (by kernel_rfl) hD) ?_
              intro hH
              obtain ⟨hq, hm⟩ := hm
              refine only 68 (by kernel_rfl) (by rfl) (call hS (by kernel_rfl) (by kernel_rfl) hb20 (by kernel_rfl) (fun _ _ => rfl) (k20 _ _ r336 r343 ([(⟨0, 0⟩ : Api_Pick), (⟨1, 1⟩ : Api_Pick)].drop (1 : Int).toNat) a337 c338 a344 c345 a330 c331 hq h339 h346 h332) ?_)
              intro v347 a w348 χ349 hE hp hS
              clear hq
              replace hO := hO.mv hE rfl rfl
              replace hD := hD.ev hE rfl
              replace h104 := h104.mv hE rfl
              replace h169 := h169.mv hE rfl
              replace h268 := h268.mv hE rfl
              replace h275 := h275.mv hE rfl
              replace h318 := h318.mv hE rfl
              replace h325 := h325.mv hE rfl
              replace h332 := h332.mv hE rfl
              replace h339 := h339.mv hE rfl
              replace h346 := h346.mv hE rfl
              clear hE
              obtain ⟨a351, c352, hp, h353⟩ := hp
              obtain ⟨r350, hr⟩ : ∃ r, run_States r336 r343 ([(⟨0, 0⟩ : Api_Pick), (⟨1, 1⟩ : Api_Pick)].drop (1 : Int).toNat) = r := ⟨_, rfl⟩
              replace hm := hm r350 hr
              rw [hr] at hp h353
              clear hr
              subst hp
              replace hm := hm (h353.sm (by kernel_rfl))
              refine andH (Hold.of hS (bks := []) (by kernel_rfl) hD) ?_
              intro hH
              refine take T [69, 70, 71, 72] [] [0] hS (by kernel_rfl) (by kernel_rfl) (by kernel_rfl) hH (listed' := #[true, true, true, true, true, true, true, true, true, true, true, true, true, true, true, true, true, true, true, true, true, true, true, true, true, true, true, true, true, true, true, true, true, true, true, true, true, true, true, true, true, true, true, true, true, true, true, true, true, true, true, true, true, true, true, true, true, true, true, true, true, true, true, true, true, true, true, true, true, true, true, true, true]) (fuel := 0) (sy' := ⟨[(0, B (((r350.length : Nat) : Int) == 0))], []⟩) (by as_aux_lemma => kernel_rfl) (by rfl) ?_
              intro a hS
              refine drawnDone (by kernel_rfl) ?_
              clear hD hH
              replace hS := hS.sel [0] [] (sy' := ⟨[(0, B (((r350.length : Nat) : Int) == 0))], []⟩) (by kernel_rfl)
              refine wret ?_
              exact fin T hS hO (fun c => c) rfl (r := [.bool (((r350.length : Nat) : Int) == 0)]) (by kernel_rfl) (fun χ' hM hC => ⟨(((r350.length : Nat) : Int) == 0), hm, rfl⟩)
            · replace hS := hS.lit (t := 145) (by kernel_rfl) hb
              replace hm := hm.2 hb
              refine take T [64, 66, 65, 67, 68, 69, 70, 71, 72] [] [0] hS (by kernel_rfl) (by kernel_rfl) (by kernel_rfl) hH (listed' := #[true, true, true, true, true, true, true, true, true, true, true, true, true, true, true, true, true, true, true, true, true, true, true, true, true, true, true, true, true, true, true, true, true, true, true, true, true, true, true, true, true, true, true, true, true, true, true, true, true, true, true, true, true, true, true, true, true, true, true, true, true, true, true, true, true, true, true, true, true, true, true, true, true]) (fuel := 0) (sy' := ⟨[(0, B false)], []⟩) (by as_aux_lemma => kernel_rfl) (by rfl) ?_
              intro a hS
              refine drawnDone (by kernel_rfl) ?_
              clear hD hH
              replace hS := hS.sel [0] [] (sy' := ⟨[(0, B false)], []⟩) (by kernel_rfl)
              refine wret ?_
              exact fin T hS hO (fun c => c) rfl (r := [.bool false]) (by kernel_rfl) (fun χ' hM hC => ⟨false, hm, rfl⟩)
        · refine oneOp (by rfl) (lit (E := 3) (col := 0) (T := tI) (vals := [.int .i64 0, .int .i64 1, .int .i64 1]) (ys := [0, 1, 1]) T hS (by kernel_rfl) (by kernel_rfl) (by kernel_rfl) (by kernel_rfl) (by exact ⟨rfl, rfl, rfl, trivial⟩) rfl (by kernel_rfl) (by kernel_rfl) (by kernel_rfl) (by kernel_rfl) ?_)
          intro b354 a w355 χ356 hE h357 hN hS
          clear hN
          replace hO := hO.mv hE rfl rfl
          replace hD := hD.ev hE rfl
          replace h104 := h104.mv hE rfl
          replace h169 := h169.mv hE rfl
          replace h268 := h268.mv hE rfl
          clear hE
          replace h357 := h357.rs0
          refine andH (Hold.of hS (bks := []) (by kernel_rfl) hD) ?_
          intro hH
          refine only 57 (by kernel_rfl) (by rfl) (call hS (by kernel_rfl) (by kernel_rfl) hb42 (by kernel_rfl) (fun _ _ => rfl) (k42 _ _) ?_)
          intro v358 a w359 χ360 hE hp hS
          replace hO := hO.mv hE rfl rfl
          replace hD := hD.ev hE rfl
          replace h104 := h104.mv hE rfl
          replace h169 := h169.mv hE rfl
          replace h268 := h268.mv hE rfl
          replace h357 := h357.mv hE rfl
          clear hE
          obtain ⟨a362, c363, hp, h364⟩ := hp
          obtain ⟨r361, hr⟩ : ∃ r, law28_ops = r := ⟨_, rfl⟩
          replace hm := hm r361 hr
          rw [hr] at hp h364
          clear hr
          subst hp
          replace hm := hm (h364.sm (by kernel_rfl))
          refine andH (Hold.of hS (bks := []) (by kernel_rfl) hD) ?_
          intro hH
          obtain ⟨hq, hm⟩ := hm
          refine only 59 (by kernel_rfl) (by rfl) (call hS (by kernel_rfl) (by kernel_rfl) hb20 (by kernel_rfl) (fun _ _ => rfl) (k20 _ _ r265 r361 [(⟨0, 0⟩ : Api_Pick), (⟨1, 1⟩ : Api_Pick)] a266 c267 a362 c363 (some ⟨b101, 0, none⟩) 2 hq h268 h364 h104) ?_)
          intro v365 a w366 χ367 hE hp hS
          clear hq
          replace hO := hO.mv hE rfl rfl
          replace hD := hD.ev hE rfl
          replace h104 := h104.mv hE rfl
          replace h169 := h169.mv hE rfl
          replace h268 := h268.mv hE rfl
          replace h357 := h357.mv hE rfl
          replace h364 := h364.mv hE rfl
          clear hE
          obtain ⟨a369, c370, hp, h371⟩ := hp
          obtain ⟨r368, hr⟩ : ∃ r, run_States r265 r361 [(⟨0, 0⟩ : Api_Pick), (⟨1, 1⟩ : Api_Pick)] = r := ⟨_, rfl⟩
          replace hm := hm r368 hr
          rw [hr] at hp h371
          clear hr
          subst hp
          replace hm := hm (h371.sm (by kernel_rfl))
          refine andH (Hold.of hS (bks := []) (by kernel_rfl) hD) ?_
          intro hH
          refine only 61 (by kernel_rfl) (by rfl) (call hS (by kernel_rfl) (by kernel_rfl) hb19 (by kernel_rfl) (fun _ _ => rfl) (k19 _ _ r368 [0, 1, 1] a369 c370 (some ⟨b354, 0, none⟩) 3 h371 h357) ?_)
          intro v372 a w373 χ374 hE hp hS
          replace hO := hO.mv hE rfl rfl
          replace hD := hD.ev hE rfl
          replace h104 := h104.mv hE rfl
          replace h169 := h169.mv hE rfl
          replace h268 := h268.mv hE rfl
          replace h357 := h357.mv hE rfl
          replace h364 := h364.mv hE rfl
          replace h371 := h371.mv hE rfl
          clear hE
          obtain ⟨r375, hr⟩ : ∃ r, ref01_SameInts r368 [0, 1, 1] = r := ⟨_, rfl⟩
          replace hm := hm r375 hr
          rw [hr] at hp
          clear hr
          subst hp
          refine andH (Hold.of hS (bks := []) (by kernel_rfl) hD) ?_
          intro hH
          refine take T [62, 63] [] [1, 145] hS (by kernel_rfl) (by kernel_rfl) (by kernel_rfl) hH (listed' := #[true, true, true, true, true, true, true, true, true, true, true, true, true, true, true, true, true, true, true, true, true, true, true, true, true, true, true, true, true, true, true, true, true, true, true, true, true, true, true, true, true, true, true, true, true, true, true, true, true, true, true, true, true, true, true, true, true, true, true, true, true, true, true, true, false, false, false, false, false, false, false, false, false]) (fuel := 9) (sy' := ⟨[(1, V (.slice (some ⟨b101, 0, none⟩) [(⟨0, 0⟩ : Api_Pick), (⟨1, 1⟩ : Api_Pick)].length 2)), (145, B r375)], []⟩) (by as_aux_lemma => kernel_rfl) (by rfl) ?_
          intro a hS
          rcases Bool.eq_false_or_eq_true r375 with hb | hb
          · replace hS := hS.lit (t := 145) (by kernel_rfl) hb
            replace hm := hm.1 hb
            refine take T [66] [] [145, 148] hS (by kernel_rfl) (by kernel_rfl) (by kernel_rfl) hH (listed' := #[true, true, true, true, true, true, true, true, true, true, true, true, true, true, true, true, true, true, true, true, true, true, true, true, true, true, true, true, true, true, true, true, true, true, true, true, true, true, true, true, true, true, true, true, true, true, true, true, true, true, true, true, true, true, true, true, true, true, true, true, true, true, true, true, false, false, true, false, false, false, false, false, false]) (fuel := 8) (sy' := ⟨[(145, B true), (148, V (.slice (some ⟨b101, 0, none⟩) [(⟨0, 0⟩ : Api_Pick), (⟨1, 1⟩ : Api_Pick)].length 2))], []⟩) (by as_aux_lemma => kernel_rfl) (by rfl) ?_
            intro a hS
            obtain ⟨hq, hm⟩ := hm
            refine dslice1 (E := 52) (kl := .i64) T 67 hS (by kernel_rfl) (by kernel_rfl) (by kernel_rfl) (by rfl) (by kernel_rfl) hH (by kernel_rfl) (by kernel_rfl) h104 (by kernel_rfl) (by kernel_rfl) hq.1 hq.2 ?_
            intro a376 c377 a h378 hS
            clear hq
            refine only 64 (by kernel_rfl) (by rfl) (call hS (by kernel_rfl) (by kernel_rfl) hb41 (by kernel_rfl) (fun _ _ => rfl) (k41 _ _) ?_)
            intro v379 a w380 χ381 hE hp hS
            replace hO := hO.mv hE rfl rfl
            replace hD := hD.ev hE rfl
            replace h104 := h104.mv hE rfl
            replace h169 := h169.mv hE rfl
            replace h268 := h268.mv hE rfl
            replace h357 := h357.mv hE rfl
            replace h364 := h364.mv hE rfl
            replace h371 := h371.mv hE rfl
            replace h378 := h378.mv hE rfl
            clear hE
            obtain ⟨a383, c384, hp, h385⟩ := hp
            obtain ⟨r382, hr⟩ : ∃ r, law28_flag = r := ⟨_, rfl⟩
            replace hm := hm r382 hr
            rw [hr] at hp h385
            clear hr
            subst hp
            replace hm := hm (h385.sm (by kernel_rfl))
            refine andH (Hold.of hS (bks := []) (by kernel_rfl) hD) ?_
            intro hH
            refine only 65 (by kernel_rfl) (by rfl) (call hS (by kernel_rfl) (by kernel_rfl) hb42 (by kernel_rfl) (fun _ _ => rfl) (k42 _ _) ?_)
            intro v386 a w387 χ388 hE hp hS
            replace hO := hO.mv hE rfl rfl
            replace hD := hD.ev hE rfl
            replace h104 := h104.mv hE rfl
            replace h169 := h169.mv hE rfl
            replace h268 := h268.mv hE rfl
            replace h357 := h357.mv hE rfl
            replace h364 := h364.mv hE rfl
            replace h371 := h371.mv hE rfl
            replace h378 := h378.mv hE rfl
            replace h385 := h385.mv hE rfl
            clear hE
            obtain ⟨a390, c391, hp, h392⟩ := hp
            obtain ⟨r389, hr⟩ : ∃ r, law28_ops = r := ⟨_, rfl⟩
            replace hm := hm r389 hr
            rw [hr] at hp h392
            clear hr
            subst hp
            replace hm := hm (h392.sm (by kernel_rfl))
            refine andH (Hold.of hS (bks := []) (by kernel_rfl) hD) ?_
            intro hH
            obtain ⟨hq, hm⟩ := hm
            refine only 68 (by kernel_rfl) (by rfl) (call hS (by kernel_rfl) (by kernel_rfl) hb20 (by kernel_rfl) (fun _ _ => rfl) (k20 _ _ r382 r389 ([(⟨0, 0⟩ : Api_Pick), (⟨1, 1⟩ : Api_Pick)].drop (1 : Int).toNat) a383 c384 a390 c391 a376 c377 hq h385 h392 h378) ?_)
            intro v393 a w394 χ395 hE hp hS
            clear hq
            replace hO := hO.mv hE rfl rfl
            replace hD := hD.ev hE rfl
            replace h104 := h104.mv hE rfl
            replace h169 := h169.mv hE rfl
            replace h268 := h268.mv hE rfl
            replace h357 := h357.mv hE rfl
            replace h364 := h364.mv hE rfl
            replace h371 := h371.mv hE rfl
            replace h378 := h378.mv hE rfl
            replace h385 := h385.mv hE rfl
            replace h392 := h392.mv hE rfl
            clear hE
            obtain ⟨a397, c398, hp, h399⟩ := hp
            obtain ⟨r396, hr⟩ : ∃ r, run_States r382 r389 ([(⟨0, 0⟩ : Api_Pick), (⟨1, 1⟩ : Api_Pick)].drop (1 : Int).toNat) = r := ⟨_, rfl⟩
            replace hm := hm r396 hr
            rw [hr] at hp h399
            clear hr
            subst hp
            replace hm := hm (h399.sm (by kernel_rfl))
            refine andH (Hold.of hS (bks := []) (by kernel_rfl) hD) ?_
            intro hH
            refine take T [69, 70, 71, 72] [] [0] hS (by kernel_rfl) (by kernel_rfl) (by kernel_rfl) hH (listed' := #[true, true, true, true, true, true, true, true, true, true, true, true, true, true, true, true, true, true, true, true, true, true, true, true, true, true, true, true, true, true, true, true, true, true, true, true, true, true, true, true, true, true, true, true, true, true, true, true, true, true, true, true, true, true, true, true, true, true, true, true, true, true, true, true, true, true, true, true, true, true, true, true, true]) (fuel := 0) (sy' := ⟨[(0, B (((r396.length : Nat) : Int) == 0))], []⟩) (by as_aux_lemma => kernel_rfl) (by rfl) ?_
            intro a hS
            refine drawnDone (by kernel_rfl) ?_
            clear hD hH
            replace hS := hS.sel [0] [] (sy' := ⟨[(0, B (((r396.length : Nat) : Int) == 0))], []⟩) (by kernel_rfl)
            refine wret ?_
            exact fin T hS hO (fun c => c) rfl (r := [.bool (((r396.length : Nat) : Int) == 0)]) (by kernel_rfl) (fun χ' hM hC => ⟨(((r396.length : Nat) : Int) == 0), hm, rfl⟩)
          · replace hS := hS.lit (t := 145) (by kernel_rfl) hb
            replace hm := hm.2 hb
            refine take T [64, 66, 65, 67, 68, 69, 70, 71, 72] [] [0] hS (by kernel_rfl) (by kernel_rfl) (by kernel_rfl) hH (listed' := #[true, true, true, true, true, true, true, true, true, true, true, true, true, true, true, true, true, true, true, true, true, true, true, true, true, true, true, true, true, true, true, true, true, true, true, true, true, true, true, true, true, true, true, true, true, true, true, true, true, true, true, true, true, true, true, true, true, true, true, true, true, true, true, true, true, true, true, true, true, true, true, true, true]) (fuel := 0) (sy' := ⟨[(0, B false)], []⟩) (by as_aux_lemma => kernel_rfl) (by rfl) ?_
            intro a hS
            refine drawnDone (by kernel_rfl) ?_
            clear hD hH
            replace hS := hS.sel [0] [] (sy' := ⟨[(0, B false)], []⟩) (by kernel_rfl)
            refine wret ?_
            exact fin T hS hO (fun c => c) rfl (r := [.bool false]) (by kernel_rfl) (fun χ' hM hC => ⟨false, hm, rfl⟩)
      · refine oneOp (by rfl) (lit (E := 3) (col := 0) (T := tI) (vals := [.int .i64 0, .int .i64 1, .int .i64 1]) (ys := [0, 1, 1]) T hS (by kernel_rfl) (by kernel_rfl) (by kernel_rfl) (by kernel_rfl) (by exact ⟨rfl, rfl, rfl, trivial⟩) rfl (by kernel_rfl) (by kernel_rfl) (by kernel_rfl) (by kernel_rfl) ?_)
        intro b400 a w401 χ402 hE h403 hN hS
        clear hN
        replace hO := hO.mv hE rfl rfl
        replace hD := hD.ev hE rfl
        replace h104 := h104.mv hE rfl
        replace h169 := h169.mv hE rfl
        clear hE
        replace h403 := h403.rs0
        refine andH (Hold.of hS (bks := []) (by kernel_rfl) hD) ?_
        intro hH
        refine only 56 (by kernel_rfl) (by rfl) (call hS (by kernel_rfl) (by kernel_rfl) hb41 (by kernel_rfl) (fun _ _ => rfl) (k41 _ _) ?_)
        intro v404 a w405 χ406 hE hp hS
        replace hO := hO.mv hE rfl rfl
        replace hD := hD.ev hE rfl
        replace h104 := h104.mv hE rfl
        replace h169 := h169.mv hE rfl
        replace h403 := h403.mv hE rfl
        clear hE
        obtain ⟨a408, c409, hp, h410⟩ := hp
        obtain ⟨r407, hr⟩ : ∃ r, law28_flag = r := ⟨_, rfl⟩
        replace hm := hm r407 hr
        rw [hr] at hp h410
        clear hr
        subst hp
        replace hm := hm (h410.sm (by kernel_rfl))
        refine andH (Hold.of hS (bks := []) (by kernel_rfl) hD) ?_
        intro hH
        refine only 57 (by kernel_rfl) (by rfl) (call hS (by kernel_rfl) (by kernel_rfl) hb42 (by kernel_rfl) (fun _ _ => rfl) (k42 _ _) ?_)
        intro v411 a w412 χ413 hE hp hS
        replace hO := hO.mv hE rfl rfl
        replace hD := hD.ev hE rfl
        replace h104 := h104.mv hE rfl
        replace h169 := h169.mv hE rfl
        replace h403 := h403.mv hE rfl
        replace h410 := h410.mv hE rfl
        clear hE
        obtain ⟨a415, c416, hp, h417⟩ := hp
        obtain ⟨r414, hr⟩ : ∃ r, law28_ops = r := ⟨_, rfl⟩
        replace hm := hm r414 hr
        rw [hr] at hp h417
        clear hr
        subst hp
        replace hm := hm (h417.sm (by kernel_rfl))
        refine andH (Hold.of hS (bks := []) (by kernel_rfl) hD) ?_
        intro hH
        obtain ⟨hq, hm⟩ := hm
        refine only 59 (by kernel_rfl) (by rfl) (call hS (by kernel_rfl) (by kernel_rfl) hb20 (by kernel_rfl) (fun _ _ => rfl) (k20 _ _ r407 r414 [(⟨0, 0⟩ : Api_Pick), (⟨1, 1⟩ : Api_Pick)] a408 c409 a415 c416 (some ⟨b101, 0, none⟩) 2 hq h410 h417 h104) ?_)
        intro v418 a w419 χ420 hE hp hS
        clear hq
        replace hO := hO.mv hE rfl rfl
        replace hD := hD.ev hE rfl
        replace h104 := h104.mv hE rfl
        replace h169 := h169.mv hE rfl
        replace h403 := h403.mv hE rfl
        replace h410 := h410.mv hE rfl
        replace h417 := h417.mv hE rfl
        clear hE
        obtain ⟨a422, c423, hp, h424⟩ := hp
        obtain ⟨r421, hr⟩ : ∃ r, run_States r407 r414 [(⟨0, 0⟩ : Api_Pick), (⟨1, 1⟩ : Api_Pick)] = r := ⟨_, rfl⟩
        replace hm := hm r421 hr
        rw [hr] at hp h424
        clear hr
        subst hp
        replace hm := hm (h424.sm (by kernel_rfl))
        refine andH (Hold.of hS (bks := []) (by kernel_rfl) hD) ?_
        intro hH
        refine only 61 (by kernel_rfl) (by rfl) (call hS (by kernel_rfl) (by kernel_rfl) hb19 (by kernel_rfl) (fun _ _ => rfl) (k19 _ _ r421 [0, 1, 1] a422 c423 (some ⟨b400, 0, none⟩) 3 h424 h403) ?_)
        intro v425 a w426 χ427 hE hp hS
        replace hO := hO.mv hE rfl rfl
        replace hD := hD.ev hE rfl
        replace h104 := h104.mv hE rfl
        replace h169 := h169.mv hE rfl
        replace h403 := h403.mv hE rfl
        replace h410 := h410.mv hE rfl
        replace h417 := h417.mv hE rfl
        replace h424 := h424.mv hE rfl
        clear hE
        obtain ⟨r428, hr⟩ : ∃ r, ref01_SameInts r421 [0, 1, 1] = r := ⟨_, rfl⟩
        replace hm := hm r428 hr
        rw [hr] at hp
        clear hr
        subst hp
        refine andH (Hold.of hS (bks := []) (by kernel_rfl) hD) ?_
        intro hH
        refine take T [62, 63] [] [1, 145] hS (by kernel_rfl) (by kernel_rfl) (by kernel_rfl) hH (listed' := #[true, true, true, true, true, true, true, true, true, true, true, true, true, true, true, true, true, true, true, true, true, true, true, true, true, true, true, true, true, true, true, true, true, true, true, true, true, true, true, true, true, true, true, true, true, true, true, true, true, true, true, true, true, true, true, true, true, true, true, true, true, true, true, true, false, false, false, false, false, false, false, false, false]) (fuel := 9) (sy' := ⟨[(1, V (.slice (some ⟨b101, 0, none⟩) [(⟨0, 0⟩ : Api_Pick), (⟨1, 1⟩ : Api_Pick)].length 2)), (145, B r428)], []⟩) (by as_aux_lemma => kernel_rfl) (by rfl) ?_
        intro a hS
        rcases Bool.eq_false_or_eq_true r428 with hb | hb
        · replace hS := hS.lit (t := 145) (by kernel_rfl) hb
          replace hm := hm.1 hb
          refine take T [66] [] [145, 148] hS (by kernel_rfl) (by kernel_rfl) (by kernel_rfl) hH (listed' := #[true, true, true, true, true, true, true, true, true, true, true, true, true, true, true, true, true, true, true, true, true, true, true, true, true, true, true, true, true, true, true, true, true, true, true, true, true, true, true, true, true, true, true, true, true, true, true, true, true, true, true, true, true, true, true, true, true, true, true, true, true, true, true, true, false, false, true, false, false, false, false, false, false]) (fuel := 8) (sy' := ⟨[(145, B true), (148, V (.slice (some ⟨b101, 0, none⟩) [(⟨0, 0⟩ : Api_Pick), (⟨1, 1⟩ : Api_Pick)].length 2))], []⟩) (by as_aux_lemma => kernel_rfl) (by rfl) ?_
          intro a hS
          obtain ⟨hq, hm⟩ := hm
          refine dslice1 (E := 52) (kl := .i64) T 67 hS (by kernel_rfl) (by kernel_rfl) (by kernel_rfl) (by rfl) (by kernel_rfl) hH (by kernel_rfl) (by kernel_rfl) h104 (by kernel_rfl) (by kernel_rfl) hq.1 hq.2 ?_
          intro a429 c430 a h431 hS
          clear hq
          refine only 64 (by kernel_rfl) (by rfl) (call hS (by kernel_rfl) (by kernel_rfl) hb41 (by kernel_rfl) (fun _ _ => rfl) (k41 _ _) ?_)
          intro v432 a w433 χ434 hE hp hS
          replace hO := hO.mv hE rfl rfl
          replace hD := hD.ev hE rfl
          replace h104 := h104.mv hE rfl
          replace h169 := h169.mv hE rfl
          replace h403 := h403.mv hE rfl
          replace h410 := h410.mv hE rfl
          replace h417 := h417.mv hE rfl
          replace h424 := h424.mv hE rfl
          replace h431 := h431.mv hE rfl
          clear hE
          obtain ⟨a436, c437, hp, h438⟩ := hp
          obtain ⟨r435, hr⟩ : ∃ r, law28_flag = r := ⟨_, rfl⟩
          replace hm := hm r435 hr
          rw [hr] at hp h438
          clear hr
          subst hp
          replace hm := hm (h438.sm (by kernel_rfl))
          refine andH (Hold.of hS (bks := []) (by kernel_rfl) hD) ?_
          intro hH
          refine only 65 (by kernel_rfl) (by rfl) (call hS (by kernel_rfl) (by kernel_rfl) hb42 (by kernel_rfl) (fun _ _ => rfl) (k42 _ _) ?_)
          intro v439 a w440 χ441 hE hp hS
          replace hO := hO.mv hE rfl rfl
          replace hD := hD.ev hE rfl
          replace h104 := h104.mv hE rfl
          replace h169 := h169.mv hE rfl
          replace h403 := h403.mv hE rfl
          replace h410 := h410.mv hE rfl
          replace h417 := h417.mv hE rfl
          replace h424 := h424.mv hE rfl
          replace h431 := h431.mv hE rfl
          replace h438 := h438.mv hE rfl
          clear hE
          obtain ⟨a443, c444, hp, h445⟩ := hp
          obtain ⟨r442, hr⟩ : ∃ r, law28_ops = r := ⟨_, rfl⟩
          replace hm := hm r442 hr
          rw [hr] at hp h445
          clear hr
          subst hp
          replace hm := hm (h445.sm (by kernel_rfl))
          refine andH (Hold.of hS (bks := []) (by kernel_rfl) hD) ?_
          intro hH
          obtain ⟨hq, hm⟩ := hm
          refine only 68 (by kernel_rfl) (by rfl) (call hS (by kernel_rfl) (by kernel_rfl) hb20 (by kernel_rfl) (fun _ _ => rfl) (k20 _ _ r435 r442 ([(⟨0, 0⟩ : Api_Pick), (⟨1, 1⟩ : Api_Pick)].drop (1 : Int).toNat) a436 c437 a443 c444 a429 c430 hq h438 h445 h431) ?_)
          intro v446 a w447 χ448 hE hp hS
          clear hq
          replace hO := hO.mv hE rfl rfl
          replace hD := hD.ev hE rfl
          replace h104 := h104.mv hE rfl
          replace h169 := h169.mv hE rfl
          replace h403 := h403.mv hE rfl
          replace h410 := h410.mv hE rfl
          replace h417 := h417.mv hE rfl
          replace h424 := h424.mv hE rfl
          replace h431 := h431.mv hE rfl
          replace h438 := h438.mv hE rfl
          replace h445 := h445.mv hE rfl
          clear hE
          obtain ⟨a450, c451, hp, h452⟩ := hp
          obtain ⟨r449, hr⟩ : ∃ r, run_States r435 r442 ([(⟨0, 0⟩ : Api_Pick), (⟨1, 1⟩ : Api_Pick)].drop (1 : Int).toNat) = r := ⟨_, rfl⟩
          replace hm := hm r449 hr
          rw [hr] at hp h452
          clear hr
          subst hp
          replace hm := hm (h452.sm (by kernel_rfl))
          refine andH (Hold.of hS (bks := []) (by kernel_rfl) hD) ?_
          intro hH
          refine take T [69, 70, 71, 72] [] [0] hS (by kernel_rfl) (by kernel_rfl) (by kernel_rfl) hH (listed' := #[true, true, true, true, true, true, true, true, true, true, true, true, true, true, true, true, true, true, true, true, true, true, true, true, true, true, true, true, true, true, true, true, true, true, true, true, true, true, true, true, true, true, true, true, true, true, true, true, true, true, true, true, true, true, true, true, true, true, true, true, true, true, true, true, true, true, true, true, true, true, true, true, true]) (fuel := 0) (sy' := ⟨[(0, B (((r449.length : Nat) : Int) == 0))], []⟩) (by as_aux_lemma => kernel_rfl) (by rfl) ?_
          intro a hS
          refine drawnDone (by kernel_rfl) ?_
          clear hD hH
          replace hS := hS.sel [0] [] (sy' := ⟨[(0, B (((r449.length : Nat) : Int) == 0))], []⟩) (by kernel_rfl)
          refine wret ?_
          exact fin T hS hO (fun c => c) rfl (r := [.bool (((r449.length : Nat) : Int) == 0)]) (by kernel_rfl) (fun χ' hM hC => ⟨(((r449.length : Nat) : Int) == 0), hm, rfl⟩)
        · replace hS := hS.lit (t := 145) (by kernel_rfl) hb
          replace hm := hm.2 hb
          refine take T [64, 66, 65, 67, 68, 69, 70, 71, 72] [] [0] hS (by kernel_rfl) (by kernel_rfl) (by kernel_rfl) hH (listed' := #[true, true, true, true, true, true, true, true, true, true, true, true, true, true, true, true, true, true, true, true, true, true, true, true, true, true, true, true, true, true, true, true, true, true, true, true, true, true, true, true, true, true, true, true, true, true, true, true, true, true, true, true, true, true, true, true, true, true, true, true, true, true, true, true, true, true, true, true, true, true, true, true, true]) (fuel := 0) (sy' := ⟨[(0, B false)], []⟩) (by as_aux_lemma => kernel_rfl) (by rfl) ?_
          intro a hS
          refine drawnDone (by kernel_rfl) ?_
          clear hD hH
          replace hS := hS.sel [0] [] (sy' := ⟨[(0, B false)], []⟩) (by kernel_rfl)
          refine wret ?_
          exact fin T hS hO (fun c => c) rfl (r := [.bool false]) (by kernel_rfl) (fun χ' hM hC => ⟨false, hm, rfl⟩)
    · replace hS := hS.lit (t := 137) (by kernel_rfl) hb
      replace hm := hm.2 hb
      refine take T [56, 58, 60, 57, 59, 61, 62, 63, 64, 66, 65, 67, 68, 69, 70, 71, 72] [] [0] hS (by kernel_rfl) (by kernel_rfl) (by kernel_rfl) hH (listed' := #[true, true, true, true, true, true, true, true, true, true, true, true, true, true, true, true, true, true, true, true, true, true, true, true, true, true, true, true, true, true, true, true, true, true, true, true, true, true, true, true, true, true, true, true, true, true, true, true, true, true, true, true, true, true, true, true, true, true, true, true, true, true, true, true, true, true, true, true, true, true, true, true, true]) (fuel := 0) (sy' := ⟨[(0, B false)], []⟩) (by as_aux_lemma => kernel_rfl) (by rfl) ?_
      intro a hS
      refine drawnDone (by kernel_rfl) ?_
      clear hD hH
      replace hS := hS.sel [0] [] (sy' := ⟨[(0, B false)], []⟩) (by kernel_rfl)
      refine wret ?_
      exact fin T hS hO (fun c => c) rfl (r := [.bool false]) (by kernel_rfl) (fun χ' hM hC => ⟨false, hm, rfl⟩)
  · replace hS := hS.lit (t := 100) (by kernel_rfl) hb
    replace hm := hm.2 hb
    refine take T [19, 20, 21, 22, 23, 24, 25, 26, 27, 28, 29, 30, 31, 32, 33, 34, 35, 36, 37, 38, 39, 40, 41, 42, 43, 44, 45, 46, 47, 48, 49, 50, 51, 52, 53, 54, 55, 56, 58, 60, 57, 59, 61, 62, 63, 64, 66, 65, 67, 68, 69, 70, 71, 72] [] [0] hS (by kernel_rfl) (by kernel_rfl) (by kernel_rfl) hH (listed' := #[true, true, true, true, true, true, true, true, true, true, true, true, true, true, true, true, true, true, true, true, true, true, true, true, true, true, true, true, true, true, true, true, true, true, true, true, true, true, true, true, true, true, true, true, true, true, true, true, true, true, true, true, true, true, true, true, true, true, true, true, true, true, true, true, true, true, true, true, true, true, true, true, true]) (fuel := 0) (sy' := ⟨[(0, B false)], []⟩) (by as_aux_lemma => kernel_rfl) (by rfl) ?_
    intro a hS
    refine drawnDone (by kernel_rfl) ?_
    clear hD hH
    replace hS := hS.sel [0] [] (sy' := ⟨[(0, B false)], []⟩) (by kernel_rfl)
    refine wret ?_
    exact fin T hS hO (fun c => c) rfl (r := [.bool false]) (by kernel_rfl) (fun χ' hM hC => ⟨false, hm, rfl⟩)
theorem C13 (k14 : S14) (k16 : S16) (k17 : S17) (k19 : S19) (k20 : S20) (k22 : S22) (k24 : S24) (k41 : S41) (k42 : S42) (v : ∀ (_ : Unit), VC13 (fun r => r = law28_awake)) : S13 := by
  intro w χ     
  refine (W13 k14 k16 k17 k19 k20 k22 k24 k41 k42 w χ     _ (v ())).mono ?_
  rintro _ _ _ _ ⟨r, rfl, h⟩
  exact h
end Go.Proofs.Ytnhdgebboafliaa
