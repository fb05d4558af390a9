/- Walks: each function returns what its condition asks. Condition: the contracts of its callees, handed in. -/
import Derived.Test.YtlpcjbjlgeaapaaPWalks
set_option linter.all false
namespace Go.Proofs.Ytlpcjbjlgeaapaa
open Go Go.Sv
set_option maxHeartbeats 1000000
def S73_75 : Prop := ∀ (w : World) (χ : Nat → Nat) (s_ : Numbering_Size) (cap1 : Int) (b1 : Nat) (i1 : Nat), preRowP s_ cap1 → Cell w χ b1 i1 3 [.int .i64 cap1] → Apart [i1] → Ret Try.prog 73 #[.agg #[.int .i64 s_.Ops, .int .i64 s_.States], .func (.func 75) #[] #[.pointer (some ⟨b1, 0, none⟩)]] (pR [i1]) w χ (fun w χ' v => ∃ (ra1 : Option Addr) (rc1 : Nat), v = .slice ra1 (places_row_places_Clauses_2 s_ cap1).length rc1 ∧ RS tI w χ' ra1 (places_row_places_Clauses_2 s_ cap1) rc1 ∧ Cell w χ' b1 i1 3 [.int .i64 cap1])
/-- replevin/places.row -/
theorem W73_75 (k24 : S24) (k75 : S75) (w0 : World) (χ0 : Nat → Nat) (s_ : Numbering_Size) (cap1 : Int) (b1 : Nat) (i1 : Nat) (Q : (List Int) → Prop) (hm : VC73_75 s_ cap1 Q) (hc1 : Cell w0 χ0 b1 i1 3 [.int .i64 cap1]) (hA : Apart [i1]) :
    Ret Try.prog 73 #[.agg #[.int .i64 s_.Ops, .int .i64 s_.States], .func (.func 75) #[] #[.pointer (some ⟨b1, 0, none⟩)]] (pR [i1]) w0 χ0 (fun w χ' v => ∃ r, Q r ∧ ∃ (ra1 : Option Addr) (rc1 : Nat), v = .slice ra1 r.length rc1 ∧ RS tI w χ' ra1 r rc1 ∧ Cell w χ' b1 i1 3 [.int .i64 cap1]) := by
  unfold VC73_75 at hm
  refine enterR Try.func73 rfl (f0of [(i1, 901)]) (fun id => (bif Nat.beq id 901 then b1 else 0)) (args := [V (.agg #[.int .i64 s_.Ops, .int .i64 s_.States]), .f (.func 75) [] [.p 901 0]]) (bxs := [(901, (3, [I cap1]))]) (by kernel_rfl) rfl (BoxesOK.cons (by kernel_rfl) (hc1.map (f0of_at 0 hA.1 rfl)) BoxesOK.nil) (f0of_0 (fun q hq => (hA.2 q.1 (List.mem_map.2 ⟨q, hq, rfl⟩)).1)) ?_
  intro a hS hO hM
  have hP : Pin [(901, b1)] (fun id => (bif Nat.beq id 901 then b1 else 0)) := by intro q hq; simp at hq; rcases hq with rfl <;> rfl
  generalize (fun id => (bif Nat.beq id 901 then b1 else 0)) = ρ at hS hP
  clear hc1
  clear hM
  refine regM T hS (sp := []) (ks := [1, 2]) (bs := [3, 901]) (sy' := ⟨[(1, .f (.func 75) [] [.p 901 0]), (2, Pt 3 0)], [(3, (23, [I s_.Ops, I s_.States])), (901, (3, [I cap1]))]⟩) (by kernel_rfl) ?_
  intro ρ a w136 χ137 hS hE hr
  replace hO := hO.mv hE rfl rfl
  replace hP := hP.mv hr (by kernel_rfl)
  clear hE hr
  refine regO ?_
  refine opsP T hS 2 (sp := []) (ks := [1, 2, 8]) (bs := [3, 901]) (sy' := ⟨[(1, .f (.func 75) [] [.p 901 0]), (2, Pt 3 0), (8, I s_.Ops)], [(3, (23, [I s_.Ops, I s_.States])), (901, (3, [I cap1]))]⟩) (by kernel_rfl) ?_
  intro a hS
  obtain ⟨hq, hm⟩ := hm
  refine op1 (make (E := 3) (kl := .i64) (kc := .i64) (col := 1005) (T := tI) T 0 hS (by kernel_rfl) (by kernel_rfl) (by kernel_rfl) (by kernel_rfl) (by kernel_rfl) (by kernel_rfl) hq.1 hq.2.1 (by have := hq.2.2; simp only [tI, tInt, tBool, tStr, tSlice]; omega) (by have := hq.2.2; omega) (fun _ _ => rfl) ?_)
  intro b101 a w102 χ103 hE h104 hN hS
  clear hq hN
  replace hO := hO.mv hE rfl rfl
  clear hE
  replace hS := hS.conv (t := 9) (y := .slice (some ⟨b101, 0, none⟩) (List.replicate s_.Ops.toNat (0 : Int)).length s_.Ops.toNat) (by kernel_rfl) (by rw [List.length_replicate])
  refine endP T hS (sp := []) (ks := [1, 2, 5]) (bs := [3, 901]) (sy' := ⟨[(1, .f (.func 75) [] [.p 901 0]), (2, Pt 3 0), (5, V (.slice (some ⟨b101, 0, none⟩) (List.replicate s_.Ops.toNat (0 : Int)).length s_.Ops.toNat))], [(3, (23, [I s_.Ops, I s_.States])), (901, (3, [I cap1]))]⟩) (by kernel_rfl) ?_
  intro a hS
  refine wcut (fun a w => ∃ (ρ : Nat → Nat) (χ : Nat → Nat) (out_105 : List Int) (a106 : Option Addr) (c107 : Nat), VC73_75_J1 Q out_105 ∧ St Try.f73.ntmps ⟨[(5, V (.slice a106 out_105.length c107))], [(901, (3, [I cap1]))]⟩ ρ a w χ ∧ OldR (f0of [(i1, 901)]) w0 χ0 w χ ∧ Pin [(901, b1)] ρ ∧ OS tI 3 w χ 1005 a106 out_105 c107) ?_ ?_
  · refine regP T hS (sp := []) (ks := [1, 2, 5, 11, 12]) (bs := [3, 901]) (sy' := ⟨[(1, .f (.func 75) [] [.p 901 0]), (2, Pt 3 0), (5, V (.slice (some ⟨b101, 0, none⟩) (List.replicate s_.Ops.toNat (0 : Int)).length s_.Ops.toNat)), (11, I (((List.replicate s_.Ops.toNat (0 : Int)).length : Nat) : Int)), (12, I 0)], [(3, (23, [I s_.Ops, I s_.States])), (901, (3, [I cap1]))]⟩) (by kernel_rfl) ?_
    intro a hS
    refine wblock ?_
    obtain ⟨I1, μ1, hm0, hm⟩ := hm
    refine wloop (σ := (List Int) × Int) (fun s a w => ∃ (ρ : Nat → Nat) (χ : Nat → Nat) (a112 : Option Addr) (c113 : Nat), I1 s.1 s.2 ∧ St Try.f73.ntmps ⟨[(1, .f (.func 75) [] [.p 901 0]), (2, Pt 3 0), (5, V (.slice a112 s.1.length c113)), (11, I (((List.replicate s_.Ops.toNat (0 : Int)).length : Nat) : Int)), (12, I s.2)], [(3, (23, [I s_.Ops, I s_.States])), (901, (3, [I cap1]))]⟩ ρ a w χ ∧ OldR (f0of [(i1, 901)]) w0 χ0 w χ ∧ Pin [(901, b1)] ρ ∧ OS tI 3 w χ 1005 a112 s.1 c113) (fun s => μ1 s.1 s.2) (⟨List.replicate s_.Ops.toNat (0 : Int), 0⟩) ?_ ?_
    · exact ⟨ρ, _, (some ⟨b101, 0, none⟩), s_.Ops.toNat, hm0, hS.sel [1, 2, 5, 11, 12] [3, 901] (by kernel_rfl), hO, hP, h104⟩
    · rintro ⟨out_111, x_115⟩ a w133 ⟨ρ, χ132, a112, c113, hI, hS, hO, hP, h114⟩
      replace hm := hm out_111 x_115 hI
      clear hI hm0
      refine regP T hS (sp := []) (ks := [1, 2, 5, 11, 12, 13]) (bs := [3, 901]) (sy' := ⟨[(1, .f (.func 75) [] [.p 901 0]), (2, Pt 3 0), (5, V (.slice a112 out_111.length c113)), (11, I (((List.replicate s_.Ops.toNat (0 : Int)).length : Nat) : Int)), (12, I x_115), (13, B (decide (x_115 < (((List.replicate s_.Ops.toNat (0 : Int)).length : Nat) : Int))))], [(3, (23, [I s_.Ops, I s_.States])), (901, (3, [I cap1]))]⟩) (by kernel_rfl) ?_
      intro a hS
      refine wseq ?_
      refine wcond hS (b := decide (x_115 < (((List.replicate s_.Ops.toNat (0 : Int)).length : Nat) : Int))) (by kernel_rfl) (fun hb => ?_) (fun hb => ?_)
      · replace hm := hm.1 hb
        refine wskip ?_
        refine wseq ?_
        refine wblock ?_
        refine regP T hS (sp := []) (ks := [1, 2, 5, 6, 11, 12]) (bs := [3, 901]) (sy' := ⟨[(1, .f (.func 75) [] [.p 901 0]), (2, Pt 3 0), (5, V (.slice a112 out_111.length c113)), (6, I x_115), (11, I (((List.replicate s_.Ops.toNat (0 : Int)).length : Nat) : Int)), (12, I x_115)], [(3, (23, [I s_.Ops, I s_.States])), (901, (3, [I cap1]))]⟩) (by kernel_rfl) ?_
        intro a hS
        refine drawn [3, 901] mixed hS ?_
        intro w116 hS hE hD hH
        replace hO := hO.mv hE rfl rfl
        replace h114 := h114.mv hE rfl rfl
        clear hE
        refine take T [0, 1, 2, 3, 4] [3, 901] [1, 2, 5, 11, 12, 15, 16, 17, 18, 19] hS (by kernel_rfl) (by kernel_rfl) (by kernel_rfl) hH (listed' := #[true, true, true, true, true, false, false, false, false]) (fuel := 4) (sy' := ⟨[(1, .f (.func 75) [] [.p 901 0]), (2, Pt 3 0), (5, V (.slice a112 out_111.length c113)), (11, I (((List.replicate s_.Ops.toNat (0 : Int)).length : Nat) : Int)), (12, I x_115), (15, V (.slice a112 out_111.length c113)), (16, I x_115), (17, V (.agg #[.int .i64 s_.Ops, .int .i64 s_.States])), (18, .f (.func 75) [] [.p 901 0]), (19, I x_115)], [(3, (23, [I s_.Ops, I s_.States])), (901, (3, [I cap1]))]⟩) (by kernel_rfl) (by rfl) ?_
        intro a hS
        refine only 5 (by kernel_rfl) (by rfl) (callCR (fi := []) (cp := [.p 901 0]) hS (by kernel_rfl) (by kernel_rfl) hb75 (by kernel_rfl) (by kernel_rfl) (k75 _ _ x_115 cap1 (ρ 901) 901 (hS.cell (id := 901) (t := 3) (cs := [I cap1]) (by kernel_rfl)) ⟨by decide, by decide⟩) ?_)
        intro v117 a w118 χ119 hE hp hS
        replace hO := hO.mv hE rfl rfl
        replace hD := hD.ev hE rfl
        replace h114 := h114.mv hE rfl rfl
        clear hE
        obtain ⟨hp, hc121⟩ := hp
        obtain ⟨r120, hr⟩ : ∃ r, places_Clauses_2 x_115 cap1 = r := ⟨_, rfl⟩
        replace hm := hm r120 hr
        rw [hr] at hp
        clear hr
        subst hp
        replace hS := hS.addbox (id := 901) (t := 3) (cs := [I cap1]) (by kernel_rfl) hc121
        clear hc121
        replace hS := hS.sel [1, 2, 5, 11, 12, 15, 16, 17, 18, 19, 20] [3, 901] (sy' := ⟨[(1, .f (.func 75) [] [.p 901 0]), (2, Pt 3 0), (5, V (.slice a112 out_111.length c113)), (11, I (((List.replicate s_.Ops.toNat (0 : Int)).length : Nat) : Int)), (12, I x_115), (15, V (.slice a112 out_111.length c113)), (16, I x_115), (17, V (.agg #[.int .i64 s_.Ops, .int .i64 s_.States])), (18, .f (.func 75) [] [.p 901 0]), (19, I x_115), (20, V (.agg #[.int .i64 r120.Kind, .int .i64 r120.A, .int .i64 r120.B]))], [(3, (23, [I s_.Ops, I s_.States])), (901, (3, [I cap1]))]⟩) (by kernel_rfl)
        refine andH (Hold.of hS (bks := [3, 901]) (by kernel_rfl) hD) ?_
        intro hH
        refine only 6 (by kernel_rfl) (by rfl) (call hS (by kernel_rfl) (by kernel_rfl) hb24 (by kernel_rfl) (fun _ _ => rfl) (k24 _ _ s_ r120) ?_)
        intro v122 a w123 χ124 hE hp hS
        replace hO := hO.mv hE rfl rfl
        replace hD := hD.ev hE rfl
        replace h114 := h114.mv hE rfl rfl
        clear hE
        obtain ⟨r125, hr⟩ : ∃ r, numbering_Var s_ r120 = r := ⟨_, rfl⟩
        replace hm := hm r125 hr
        rw [hr] at hp
        clear hr
        subst hp
        replace hS := hS.sel [1, 2, 5, 11, 12, 15, 16, 17, 18, 19, 20, 21] [3, 901] (sy' := ⟨[(1, .f (.func 75) [] [.p 901 0]), (2, Pt 3 0), (5, V (.slice a112 out_111.length c113)), (11, I (((List.replicate s_.Ops.toNat (0 : Int)).length : Nat) : Int)), (12, I x_115), (15, V (.slice a112 out_111.length c113)), (16, I x_115), (17, V (.agg #[.int .i64 s_.Ops, .int .i64 s_.States])), (18, .f (.func 75) [] [.p 901 0]), (19, I x_115), (20, V (.agg #[.int .i64 r120.Kind, .int .i64 r120.A, .int .i64 r120.B])), (21, I r125)], [(3, (23, [I s_.Ops, I s_.States])), (901, (3, [I cap1]))]⟩) (by kernel_rfl)
        refine andH (Hold.of hS (bks := [3, 901]) (by kernel_rfl) hD) ?_
        intro hH
        obtain ⟨hq129, hm⟩ := hm
        refine only 7 (by kernel_rfl) (by rfl) (indexX (E := 3) (k := .i64) T hS (by kernel_rfl) (by kernel_rfl) (by kernel_rfl) (by kernel_rfl) h114 (by kernel_rfl) (by kernel_rfl) hq129.1 hq129.2 ?_)
        intro A126 a h128 h127 hS
        refine andH (Hold.of hS (bks := [3, 901]) (by kernel_rfl) hD) ?_
        intro hH
        refine only 8 (by kernel_rfl) (by rfl) (storeO (x := r125) (v := I r125) (i := x_115.toNat) (E := 3) (xs := out_111) T hS (by kernel_rfl) (by kernel_rfl) (by kernel_rfl) (by kernel_rfl) h114 h128 (by have := hq129.1; have := hq129.2; omega) (by kernel_rfl) (fun _ _ _ => rfl) ?_)
        intro a w130 hE h131 hS
        clear h114 h128 h127 hq129
        replace hO := hO.mv hE rfl rfl
        replace hD := hD.ev hE rfl
        clear hE
        replace hS := hS.conv (t := 5) (y := .slice a112 (out_111.set x_115.toNat r125).length c113) (by kernel_rfl) (by rw [List.length_set])
        replace hS := hS.conv (t := 15) (y := .slice a112 (out_111.set x_115.toNat r125).length c113) (by kernel_rfl) (by rw [List.length_set])
        refine andH (Hold.of hS (bks := [3, 901]) (by kernel_rfl) hD) ?_
        intro hH
        refine drawnDone (by kernel_rfl) ?_
        clear hD hH
        replace hS := hS.sel [1, 2, 5, 11, 12] [3, 901] (sy' := ⟨[(1, .f (.func 75) [] [.p 901 0]), (2, Pt 3 0), (5, V (.slice a112 (out_111.set x_115.toNat r125).length c113)), (11, I (((List.replicate s_.Ops.toNat (0 : Int)).length : Nat) : Int)), (12, I x_115)], [(3, (23, [I s_.Ops, I s_.States])), (901, (3, [I cap1]))]⟩) (by kernel_rfl)
        refine region (endP T hS (sp := []) (ks := [1, 2, 5, 11, 12]) (bs := [3, 901]) (sy' := ⟨[(1, .f (.func 75) [] [.p 901 0]), (2, Pt 3 0), (5, V (.slice a112 (out_111.set x_115.toNat r125).length c113)), (11, I (((List.replicate s_.Ops.toNat (0 : Int)).length : Nat) : Int)), (12, I (IntKind.i64.wrap (x_115 + 1)))], [(3, (23, [I s_.Ops, I s_.States])), (901, (3, [I cap1]))]⟩) (by kernel_rfl) ?_)
        intro a hS
        exact ⟨⟨(out_111.set x_115.toNat r125), IntKind.i64.wrap (x_115 + 1)⟩, ⟨ρ, _, a112, c113, hm.1, hS.sel [1, 2, 5, 11, 12] [3, 901] (by kernel_rfl), hO, hP, h131⟩, hm.2⟩
      · replace hm := hm.2 hb
        refine wexit (by rfl) ?_
        exact ⟨ρ, _, out_111, a112, c113, hm, hS.sel [5] [901] (by kernel_rfl), hO, hP, h114⟩
  · rintro a w135 ⟨ρ, χ134, out_105, a106, c107, hm, hS, hO, hP, h108⟩
    unfold VC73_75_J1 at hm
    refine regP T hS (sp := []) (ks := [4]) (bs := [901]) (sy' := ⟨[(4, V (.slice a106 out_105.length c107))], [(901, (3, [I cap1]))]⟩) (by kernel_rfl) ?_
    intro a hS
    refine wret ?_
    obtain ⟨χ109, hE, hF⟩ := h108.freeze (by decide)
    replace hS := hS.ev hE (xone_box (by kernel_rfl))
    replace hO := hO.mv hE rfl rfl
    have h110 := hF; clear hE hF
    exact finR T hS hO (fun c h => f0of_zero (by kernel_rfl) h) (fun c h => f0of_else (l := [(i1, 901)]) h) (f1of [(i1, 901)]) rfl (r := [.slice a106 out_105.length c107]) (by kernel_rfl) (fun χ' hM hC => ⟨out_105, hm, a106, c107, rfl, h110.m0 hM, ((hS.cell (id := 901) (t := 3) (cs := [I cap1]) (by kernel_rfl)).out (f := (f1of [(i1, 901)])) hC (by kernel_rfl) (by kernel_rfl) (hP.at 0 rfl))⟩)
theorem C73_75 (k24 : S24) (k75 : S75) (v : ∀ (s_ : Numbering_Size) (cap1 : Int), preRowP s_ cap1 → VC73_75 s_ cap1 (fun r => r = places_row_places_Clauses_2 s_ cap1)) : S73_75 := by
  intro w χ s_ cap1   b1 i1 hp hc1 hA
  refine (W73_75 k24 k75 w χ s_ cap1   b1 i1 _ (v s_ cap1 hp) hc1 hA).mono ?_
  rintro _ _ _ _ ⟨r, rfl, h⟩
  exact h
def S47 : Prop := ∀ (w : World) (χ : Nat → Nat) (s_ : Numbering_Size), Ret Try.prog 47 #[.agg #[.int .i64 s_.Ops, .int .i64 s_.States]] xnone w χ (fun w χ' v => ∃ (ra1 : Option Addr) (rc1 : Nat), v = .slice ra1 (places_Clauses s_).length rc1 ∧ RS (tSlice tI) w χ' ra1 (places_Clauses s_) rc1)
theorem hb47 : hasBody Try.prog 47 = true := by kernel_rfl
/-- replevin/places.Clauses -/
theorem W47 (k21 : S21) (k49 : S49) (k73_74 : S73_74) (k73_75 : S73_75) (w0 : World) (χ0 : Nat → Nat) (s_ : Numbering_Size) (Q : (List (List Int)) → Prop) (hm : VC47 s_ Q) :
    Ret Try.prog 47 #[.agg #[.int .i64 s_.Ops, .int .i64 s_.States]] xnone w0 χ0 (fun w χ' v => ∃ r, Q r ∧ ∃ (ra1 : Option Addr) (rc1 : Nat), v = .slice ra1 r.length rc1 ∧ RS (tSlice tI) w χ' ra1 r rc1) := by
  unfold VC47 at hm
  refine enter Try.func47 rfl (vals := [.agg #[.int .i64 s_.Ops, .int .i64 s_.States]]) (by kernel_rfl) ?_
  intro ρ a hS hO hM
  clear hM
  refine regM T hS (sp := []) (ks := [1]) (bs := [2]) (sy' := ⟨[(1, Pt 2 0)], [(2, (23, [I s_.Ops, I s_.States]))]⟩) (by kernel_rfl) ?_
  intro ρ a w186 χ187 hS hE hr
  replace hO := hO.mv hE rfl rfl
  clear hE hr
  refine wseq ?_
  refine regO ?_
  refine opsP T hS 1 (sp := []) (ks := [1, 8]) (bs := [2]) (sy' := ⟨[(1, Pt 2 0), (8, V (.agg #[.int .i64 s_.Ops, .int .i64 s_.States]))], [(2, (23, [I s_.Ops, I s_.States]))]⟩) (by kernel_rfl) ?_
  intro a hS
  refine op1 (call hS (by kernel_rfl) (by kernel_rfl) hb21 (by kernel_rfl) (fun _ _ => rfl) (k21 _ _ s_) ?_)
  intro v101 a w102 χ103 hE hp hS
  replace hO := hO.mv hE rfl rfl
  clear hE
  obtain ⟨r104, hr⟩ : ∃ r, numbering_Check s_ = r := ⟨_, rfl⟩
  replace hm := hm r104 hr
  rw [hr] at hp
  clear hr
  subst hp
  refine endP T hS (sp := []) (ks := [1, 10]) (bs := [2]) (sy' := ⟨[(1, Pt 2 0), (10, B (r104 != 0))], [(2, (23, [I s_.Ops, I s_.States]))]⟩) (by kernel_rfl) ?_
  intro a hS
  refine wcond hS (b := (r104 != 0)) (by kernel_rfl) (fun hb => ?_) (fun hb => ?_)
  · replace hm := hm.1 hb
    refine regP T hS (sp := []) (ks := [2]) (bs := []) (sy' := ⟨[(2, V (.slice none 0 0))], []⟩) (by kernel_rfl) ?_
    intro a hS
    refine wret ?_
    exact fin T hS hO (fun c => c) rfl (r := [.slice none 0 0]) (by kernel_rfl) (fun χ' hM hC => ⟨[], hm, none, 0, rfl, RS.empty _ _ _⟩)
  · replace hm := hm.2 hb
    refine wskip ?_
    refine regP T hS (sp := []) (ks := [1, 3]) (bs := [2]) (sy' := ⟨[(1, Pt 2 0), (3, V (.slice none 0 0))], [(2, (23, [I s_.Ops, I s_.States]))]⟩) (by kernel_rfl) ?_
    intro a hS
    refine wcut (fun a w => ∃ (ρ : Nat → Nat) (χ : Nat → Nat) (out_105 : List (List Int)) (a106 : Option Addr) (c107 : Nat), VC47_J1 s_ Q out_105 ∧ St Try.f47.ntmps ⟨[(1, Pt 2 0), (3, V (.slice a106 out_105.length c107))], [(2, (23, [I s_.Ops, I s_.States]))]⟩ ρ a w χ ∧ Old w0 χ0 w χ ∧ OS (tSlice tI) 42 w χ 1003 a106 out_105 c107) ?_ ?_
    · refine regP T hS (sp := []) (ks := [1, 3, 12, 13]) (bs := [2]) (sy' := ⟨[(1, Pt 2 0), (3, V (.slice none 0 0)), (12, I s_.Ops), (13, I 0)], [(2, (23, [I s_.Ops, I s_.States]))]⟩) (by kernel_rfl) ?_
      intro a hS
      refine wblock ?_
      obtain ⟨I2, μ2, hm0, hm⟩ := hm
      refine wloop (σ := (List (List Int)) × Int) (fun s a w => ∃ (ρ : Nat → Nat) (χ : Nat → Nat) (a147 : Option Addr) (c148 : Nat), I2 s.1 s.2 ∧ St Try.f47.ntmps ⟨[(1, Pt 2 0), (3, V (.slice a147 s.1.length c148)), (12, I s_.Ops), (13, I s.2)], [(2, (23, [I s_.Ops, I s_.States]))]⟩ ρ a w χ ∧ Old w0 χ0 w χ ∧ OS (tSlice tI) 42 w χ 1003 a147 s.1 c148) (fun s => μ2 s.1 s.2) (⟨[], 0⟩) ?_ ?_
      · exact ⟨ρ, _, none, 0, hm0, hS.sel [1, 3, 12, 13] [2] (by kernel_rfl), hO, (OS.nil _ _ _ _ _)⟩
      · rintro ⟨out_146, x_150⟩ a w183 ⟨ρ, χ182, a147, c148, hI, hS, hO, h149⟩
        replace hm := hm out_146 x_150 hI
        clear hI hm0
        refine regP T hS (sp := []) (ks := [1, 3, 12, 13, 14]) (bs := [2]) (sy' := ⟨[(1, Pt 2 0), (3, V (.slice a147 out_146.length c148)), (12, I s_.Ops), (13, I x_150), (14, B (decide (x_150 < s_.Ops)))], [(2, (23, [I s_.Ops, I s_.States]))]⟩) (by kernel_rfl) ?_
        intro a hS
        refine wseq ?_
        refine wcond hS (b := decide (x_150 < s_.Ops)) (by kernel_rfl) (fun hb => ?_) (fun hb => ?_)
        · replace hm := hm.1 hb
          refine wskip ?_
          refine wseq ?_
          refine wblock ?_
          refine regM T hS (sp := []) (ks := [1, 3, 4, 12, 13]) (bs := [2, 5]) (sy' := ⟨[(1, Pt 2 0), (3, V (.slice a147 out_146.length c148)), (4, Pt 5 0), (12, I s_.Ops), (13, I x_150)], [(2, (23, [I s_.Ops, I s_.States])), (5, (3, [I x_150]))]⟩) (by kernel_rfl) ?_
          intro ρ a w180 χ181 hS hE hr
          replace hO := hO.mv hE rfl rfl
          replace h149 := h149.mv hE rfl rfl
          clear hE hr
          refine regO ?_
          refine opsP T hS 2 (sp := []) (ks := [1, 3, 12, 13, 16, 17]) (bs := [2, 5]) (sy' := ⟨[(1, Pt 2 0), (3, V (.slice a147 out_146.length c148)), (12, I s_.Ops), (13, I x_150), (16, V (.agg #[.int .i64 s_.Ops, .int .i64 s_.States])), (17, .f (.func 74) [] [.p 5 0])], [(2, (23, [I s_.Ops, I s_.States])), (5, (3, [I x_150]))]⟩) (by kernel_rfl) ?_
          intro a hS
          obtain ⟨hq, hm⟩ := hm
          refine op1 (callR hS (by kernel_rfl) (by kernel_rfl) hb73 (by kernel_rfl) (k73_74 _ _ s_ x_150 (ρ 5) 5 hq (hS.cell (id := 5) (t := 3) (cs := [I x_150]) (by kernel_rfl)) ⟨by decide, by decide⟩) ?_)
          intro v151 a w152 χ153 hE hp hS
          clear hq
          replace hO := hO.mv hE rfl rfl
          replace h149 := h149.mv hE rfl rfl
          clear hE
          obtain ⟨a155, c156, hp, h157, hc158⟩ := hp
          obtain ⟨r154, hr⟩ : ∃ r, places_row_places_Clauses_1 s_ x_150 = r := ⟨_, rfl⟩
          replace hm := hm r154 hr
          rw [hr] at hp h157
          clear hr
          subst hp
          replace hm := hm (h157.sm (by kernel_rfl))
          replace hS := hS.addbox (id := 5) (t := 3) (cs := [I x_150]) (by kernel_rfl) hc158
          clear hc158
          refine endP T hS (sp := []) (ks := [1, 3, 5, 12, 13]) (bs := [2]) (sy' := ⟨[(1, Pt 2 0), (3, V (.slice a147 out_146.length c148)), (5, V (.slice a155 r154.length c156)), (12, I s_.Ops), (13, I x_150)], [(2, (23, [I s_.Ops, I s_.States]))]⟩) (by kernel_rfl) ?_
          intro a hS
          refine region ?_
          refine opsP T hS 2 (sp := []) (ks := [1, 3, 5, 12, 13, 19, 20]) (bs := [2]) (sy' := ⟨[(1, Pt 2 0), (3, V (.slice a147 out_146.length c148)), (5, V (.slice a155 r154.length c156)), (12, I s_.Ops), (13, I x_150), (19, V (.slice a147 out_146.length c148)), (20, V (.slice a155 r154.length c156))], [(2, (23, [I s_.Ops, I s_.States]))]⟩) (by kernel_rfl) ?_
          intro a hS
          refine op1 (lit (E := 42) (col := 0) (T := (tSlice tI)) (vals := [.slice a155 r154.length c156]) (ys := [r154]) T hS (by kernel_rfl) (by kernel_rfl) (by kernel_rfl) (by kernel_rfl) (by exact ⟨⟨a155, c156, rfl, h157⟩, trivial⟩) rfl (by kernel_rfl) (by kernel_rfl) (by kernel_rfl) (by kernel_rfl) ?_)
          intro b159 a w160 χ161 hE h162 hN hS
          clear hN
          replace hO := hO.mv hE rfl rfl
          replace h149 := h149.mv hE rfl rfl
          replace h157 := h157.mv hE rfl
          clear hE
          replace h162 := h162.rs0
          obtain ⟨hq, hm⟩ := hm
          obtain ⟨news, hN⟩ := h162.src
          refine op1 (append (E := 42) (T := (tSlice tI)) (col := 1003) (xs := out_146) T hS (by kernel_rfl) (by kernel_rfl) (by kernel_rfl) (by kernel_rfl) h149 hN (by kernel_rfl) (by kernel_rfl) (by kernel_rfl) (by kernel_rfl) hq ?_)
          intro a166 c167 a w163 χ164 hE h165 hS
          clear hq hN
          clear h149
          replace hO := hO.mv hE rfl rfl
          replace h157 := h157.mv hE rfl
          replace h162 := h162.mv hE rfl
          clear hE
          refine opsP T hS 1 (sp := []) (ks := [1, 12, 13, 22, 23]) (bs := [2]) (sy' := ⟨[(1, Pt 2 0), (12, I s_.Ops), (13, I x_150), (22, V (.slice a166 (out_146 ++ [r154]).length c167)), (23, V (.slice a155 r154.length c156))], [(2, (23, [I s_.Ops, I s_.States]))]⟩) (by kernel_rfl) ?_
          intro a hS
          obtain ⟨hq, hm⟩ := hm
          refine op1 (call hS (by kernel_rfl) (by kernel_rfl) hb49 (by kernel_rfl) (fun _ _ => rfl) (k49 _ _ r154 a155 c156 hq h157) ?_)
          intro v168 a w169 χ170 hE hp hS
          clear hq
          replace hO := hO.mv hE rfl rfl
          replace h157 := h157.mv hE rfl
          replace h165 := h165.mv hE rfl rfl
          clear hE
          obtain ⟨a172, c173, hp, h174⟩ := hp
          obtain ⟨r171, hr⟩ : ∃ r, places_Most r154 = r := ⟨_, rfl⟩
          replace hm := hm r171 hr
          rw [hr] at hp h174
          clear hr
          subst hp
          replace hm := hm (h174.sm (by kernel_rfl))
          obtain ⟨hq, hm⟩ := hm
          obtain ⟨news, hN⟩ := h174.src
          refine op1 (append (E := 42) (T := (tSlice tI)) (col := 1003) (xs := out_146 ++ [r154]) T hS (by kernel_rfl) (by kernel_rfl) (by kernel_rfl) (by kernel_rfl) h165 hN (by kernel_rfl) (by kernel_rfl) (by kernel_rfl) (by kernel_rfl) hq ?_)
          intro a178 c179 a w175 χ176 hE h177 hS
          clear hq hN
          clear h165
          replace hO := hO.mv hE rfl rfl
          replace h157 := h157.mv hE rfl
          replace h174 := h174.mv hE rfl
          clear hE
          refine endP T hS (sp := []) (ks := [1, 3, 12, 13]) (bs := [2]) (sy' := ⟨[(1, Pt 2 0), (3, V (.slice a178 ((out_146 ++ [r154]) ++ r171).length c179)), (12, I s_.Ops), (13, I x_150)], [(2, (23, [I s_.Ops, I s_.States]))]⟩) (by kernel_rfl) ?_
          intro a hS
          refine region (endP T hS (sp := []) (ks := [1, 3, 12, 13]) (bs := [2]) (sy' := ⟨[(1, Pt 2 0), (3, V (.slice a178 ((out_146 ++ [r154]) ++ r171).length c179)), (12, I s_.Ops), (13, I (IntKind.i64.wrap (x_150 + 1)))], [(2, (23, [I s_.Ops, I s_.States]))]⟩) (by kernel_rfl) ?_)
          intro a hS
          exact ⟨⟨(out_146 ++ [r154]) ++ r171, IntKind.i64.wrap (x_150 + 1)⟩, ⟨ρ, _, a178, c179, hm.1, hS.sel [1, 3, 12, 13] [2] (by kernel_rfl), hO, h177⟩, hm.2⟩
        · replace hm := hm.2 hb
          refine wexit (by rfl) ?_
          exact ⟨ρ, _, out_146, a147, c148, hm, hS.sel [1, 3] [2] (by kernel_rfl), hO, h149⟩
    · rintro a w185 ⟨ρ, χ184, out_105, a106, c107, hm, hS, hO, h108⟩
      unfold VC47_J1 at hm
      refine wcut (fun a w => ∃ (ρ : Nat → Nat) (χ : Nat → Nat) (out_109 : List (List Int)) (a110 : Option Addr) (c111 : Nat), VC47_J2 Q out_109 ∧ St Try.f47.ntmps ⟨[(3, V (.slice a110 out_109.length c111))], []⟩ ρ a w χ ∧ Old w0 χ0 w χ ∧ OS (tSlice tI) 42 w χ 1003 a110 out_109 c111) ?_ ?_
      · refine regP T hS (sp := []) (ks := [1, 3, 28, 29]) (bs := [2]) (sy' := ⟨[(1, Pt 2 0), (3, V (.slice a106 out_105.length c107)), (28, I s_.Ops), (29, I 0)], [(2, (23, [I s_.Ops, I s_.States]))]⟩) (by kernel_rfl) ?_
        intro a hS
        refine wblock ?_
        obtain ⟨I1, μ1, hm0, hm⟩ := hm
        refine wloop (σ := (List (List Int)) × Int) (fun s a w => ∃ (ρ : Nat → Nat) (χ : Nat → Nat) (a116 : Option Addr) (c117 : Nat), I1 s.1 s.2 ∧ St Try.f47.ntmps ⟨[(1, Pt 2 0), (3, V (.slice a116 s.1.length c117)), (28, I s_.Ops), (29, I s.2)], [(2, (23, [I s_.Ops, I s_.States]))]⟩ ρ a w χ ∧ Old w0 χ0 w χ ∧ OS (tSlice tI) 42 w χ 1003 a116 s.1 c117) (fun s => μ1 s.1 s.2) (⟨out_105, 0⟩) ?_ ?_
        · exact ⟨ρ, _, a106, c107, hm0, hS.sel [1, 3, 28, 29] [2] (by kernel_rfl), hO, h108⟩
        · rintro ⟨out_115, x_119⟩ a w143 ⟨ρ, χ142, a116, c117, hI, hS, hO, h118⟩
          replace hm := hm out_115 x_119 hI
          clear hI hm0
          refine regP T hS (sp := []) (ks := [1, 3, 28, 29, 30]) (bs := [2]) (sy' := ⟨[(1, Pt 2 0), (3, V (.slice a116 out_115.length c117)), (28, I s_.Ops), (29, I x_119), (30, B (decide (x_119 < s_.Ops)))], [(2, (23, [I s_.Ops, I s_.States]))]⟩) (by kernel_rfl) ?_
          intro a hS
          refine wseq ?_
          refine wcond hS (b := decide (x_119 < s_.Ops)) (by kernel_rfl) (fun hb => ?_) (fun hb => ?_)
          · replace hm := hm.1 hb
            refine wskip ?_
            refine wseq ?_
            refine wblock ?_
            refine regM T hS (sp := []) (ks := [1, 3, 6, 28, 29]) (bs := [2, 7]) (sy' := ⟨[(1, Pt 2 0), (3, V (.slice a116 out_115.length c117)), (6, Pt 7 0), (28, I s_.Ops), (29, I x_119)], [(2, (23, [I s_.Ops, I s_.States])), (7, (3, [I x_119]))]⟩) (by kernel_rfl) ?_
            intro ρ a w140 χ141 hS hE hr
            replace hO := hO.mv hE rfl rfl
            replace h118 := h118.mv hE rfl rfl
            clear hE hr
            refine regO ?_
            refine opsP T hS 2 (sp := []) (ks := [1, 3, 28, 29, 32, 33]) (bs := [2, 7]) (sy' := ⟨[(1, Pt 2 0), (3, V (.slice a116 out_115.length c117)), (28, I s_.Ops), (29, I x_119), (32, V (.agg #[.int .i64 s_.Ops, .int .i64 s_.States])), (33, .f (.func 75) [] [.p 7 0])], [(2, (23, [I s_.Ops, I s_.States])), (7, (3, [I x_119]))]⟩) (by kernel_rfl) ?_
            intro a hS
            obtain ⟨hq, hm⟩ := hm
            refine op1 (callR hS (by kernel_rfl) (by kernel_rfl) hb73 (by kernel_rfl) (k73_75 _ _ s_ x_119 (ρ 7) 7 hq (hS.cell (id := 7) (t := 3) (cs := [I x_119]) (by kernel_rfl)) ⟨by decide, by decide⟩) ?_)
            intro v120 a w121 χ122 hE hp hS
            clear hq
            replace hO := hO.mv hE rfl rfl
            replace h118 := h118.mv hE rfl rfl
            clear hE
            obtain ⟨a124, c125, hp, h126, hc127⟩ := hp
            obtain ⟨r123, hr⟩ : ∃ r, places_row_places_Clauses_2 s_ x_119 = r := ⟨_, rfl⟩
            replace hm := hm r123 hr
            rw [hr] at hp h126
            clear hr
            subst hp
            replace hm := hm (h126.sm (by kernel_rfl))
            replace hS := hS.addbox (id := 7) (t := 3) (cs := [I x_119]) (by kernel_rfl) hc127
            clear hc127
            refine endP T hS (sp := []) (ks := [1, 3, 7, 28, 29]) (bs := [2]) (sy' := ⟨[(1, Pt 2 0), (3, V (.slice a116 out_115.length c117)), (7, V (.slice a124 r123.length c125)), (28, I s_.Ops), (29, I x_119)], [(2, (23, [I s_.Ops, I s_.States]))]⟩) (by kernel_rfl) ?_
            intro a hS
            refine region ?_
            refine opsP T hS 2 (sp := []) (ks := [1, 3, 28, 29, 35, 36]) (bs := [2]) (sy' := ⟨[(1, Pt 2 0), (3, V (.slice a116 out_115.length c117)), (28, I s_.Ops), (29, I x_119), (35, V (.slice a116 out_115.length c117)), (36, V (.slice a124 r123.length c125))], [(2, (23, [I s_.Ops, I s_.States]))]⟩) (by kernel_rfl) ?_
            intro a hS
            obtain ⟨hq, hm⟩ := hm
            refine op1 (call hS (by kernel_rfl) (by kernel_rfl) hb49 (by kernel_rfl) (fun _ _ => rfl) (k49 _ _ r123 a124 c125 hq h126) ?_)
            intro v128 a w129 χ130 hE hp hS
            clear hq
            replace hO := hO.mv hE rfl rfl
            replace h118 := h118.mv hE rfl rfl
            replace h126 := h126.mv hE rfl
            clear hE
            obtain ⟨a132, c133, hp, h134⟩ := hp
            obtain ⟨r131, hr⟩ : ∃ r, places_Most r123 = r := ⟨_, rfl⟩
            replace hm := hm r131 hr
            rw [hr] at hp h134
            clear hr
            subst hp
            replace hm := hm (h134.sm (by kernel_rfl))
            obtain ⟨hq, hm⟩ := hm
            obtain ⟨news, hN⟩ := h134.src
            refine op1 (append (E := 42) (T := (tSlice tI)) (col := 1003) (xs := out_115) T hS (by kernel_rfl) (by kernel_rfl) (by kernel_rfl) (by kernel_rfl) h118 hN (by kernel_rfl) (by kernel_rfl) (by kernel_rfl) (by kernel_rfl) hq ?_)
            intro a138 c139 a w135 χ136 hE h137 hS
            clear hq hN
            clear h118
            replace hO := hO.mv hE rfl rfl
            replace h126 := h126.mv hE rfl
            replace h134 := h134.mv hE rfl
            clear hE
            refine endP T hS (sp := []) (ks := [1, 3, 28, 29]) (bs := [2]) (sy' := ⟨[(1, Pt 2 0), (3, V (.slice a138 (out_115 ++ r131).length c139)), (28, I s_.Ops), (29, I x_119)], [(2, (23, [I s_.Ops, I s_.States]))]⟩) (by kernel_rfl) ?_
            intro a hS
            refine region (endP T hS (sp := []) (ks := [1, 3, 28, 29]) (bs := [2]) (sy' := ⟨[(1, Pt 2 0), (3, V (.slice a138 (out_115 ++ r131).length c139)), (28, I s_.Ops), (29, I (IntKind.i64.wrap (x_119 + 1)))], [(2, (23, [I s_.Ops, I s_.States]))]⟩) (by kernel_rfl) ?_)
            intro a hS
            exact ⟨⟨out_115 ++ r131, IntKind.i64.wrap (x_119 + 1)⟩, ⟨ρ, _, a138, c139, hm.1, hS.sel [1, 3, 28, 29] [2] (by kernel_rfl), hO, h137⟩, hm.2⟩
          · replace hm := hm.2 hb
            refine wexit (by rfl) ?_
            exact ⟨ρ, _, out_115, a116, c117, hm, hS.sel [3] [] (by kernel_rfl), hO, h118⟩
      · rintro a w145 ⟨ρ, χ144, out_109, a110, c111, hm, hS, hO, h112⟩
        unfold VC47_J2 at hm
        refine regP T hS (sp := []) (ks := [2]) (bs := []) (sy' := ⟨[(2, V (.slice a110 out_109.length c111))], []⟩) (by kernel_rfl) ?_
        intro a hS
        refine wret ?_
        obtain ⟨χ113, hE, hF⟩ := h112.freeze (by decide)
        replace hS := hS.ev hE (xone_box (by kernel_rfl))
        replace hO := hO.mv hE rfl rfl
        have h114 := hF; clear hE hF
        exact fin T hS hO (fun c => c) rfl (r := [.slice a110 out_109.length c111]) (by kernel_rfl) (fun χ' hM hC => ⟨out_109, hm, a110, c111, rfl, h114.m0 hM⟩)
theorem C47 (k21 : S21) (k49 : S49) (k73_74 : S73_74) (k73_75 : S73_75) (v : ∀ (s_ : Numbering_Size), VC47 s_ (fun r => r = places_Clauses s_)) : S47 := by
  intro w χ s_    
  refine (W47 k21 k49 k73_74 k73_75 w χ s_    _ (v s_)).mono ?_
  rintro _ _ _ _ ⟨r, rfl, h⟩
  exact h
def S48 : Prop := ∀ (w : World) (χ : Nat → Nat) (P : Int) (O : Int), Ret Try.prog 48 #[.int .i64 P, .int .i64 O] xnone w χ (fun w χ' v => ∃ (ra1 : Option Addr) (rc1 : Nat), v = .slice ra1 (ref32_Clauses P O).length rc1 ∧ RS (tSlice tI) w χ' ra1 (ref32_Clauses P O) rc1)
theorem hb48 : hasBody Try.prog 48 = true := by kernel_rfl
/-- replevin/replevinref32.Clauses -/
theorem W48 (k22 : S22) (k50 : S50) (k71 : S71) (w0 : World) (χ0 : Nat → Nat) (P : Int) (O : Int) (Q : (List (List Int)) → Prop) (hm : VC48 P O Q) :
    Ret Try.prog 48 #[.int .i64 P, .int .i64 O] xnone w0 χ0 (fun w χ' v => ∃ r, Q r ∧ ∃ (ra1 : Option Addr) (rc1 : Nat), v = .slice ra1 r.length rc1 ∧ RS (tSlice tI) w χ' ra1 r rc1) := by
  unfold VC48 at hm
  refine enter Try.func48 rfl (vals := [.int .i64 P, .int .i64 O]) (by kernel_rfl) ?_
  intro ρ a hS hO hM
  clear hM
  refine regP T hS (sp := []) (ks := [0, 1]) (bs := []) (sy' := ⟨[(0, I P), (1, I O)], []⟩) (by kernel_rfl) ?_
  intro a hS
  refine regP T hS (sp := []) (ks := [0, 1, 5]) (bs := []) (sy' := ⟨[(0, I P), (1, I O), (5, V (.slice none 0 0))], []⟩) (by kernel_rfl) ?_
  intro a hS
  refine wseq ?_
  refine regO ?_
  refine opsP T hS 2 (sp := []) (ks := [0, 1, 5, 12, 13]) (bs := []) (sy' := ⟨[(0, I P), (1, I O), (5, V (.slice none 0 0)), (12, I P), (13, I O)], []⟩) (by kernel_rfl) ?_
  intro a hS
  refine op1 (call hS (by kernel_rfl) (by kernel_rfl) hb22 (by kernel_rfl) (fun _ _ => rfl) (k22 _ _ P O) ?_)
  intro v101 a w102 χ103 hE hp hS
  replace hO := hO.mv hE rfl rfl
  clear hE
  obtain ⟨r104, hr⟩ : ∃ r, ref31_Check P O = r := ⟨_, rfl⟩
  replace hm := hm r104 hr
  rw [hr] at hp
  clear hr
  subst hp
  refine endP T hS (sp := []) (ks := [0, 1, 5, 15]) (bs := []) (sy' := ⟨[(0, I P), (1, I O), (5, V (.slice none 0 0)), (15, B (r104 != 0))], []⟩) (by kernel_rfl) ?_
  intro a hS
  refine wcond hS (b := (r104 != 0)) (by kernel_rfl) (fun hb => ?_) (fun hb => ?_)
  · replace hm := hm.1 hb
    refine regP T hS (sp := []) (ks := [4]) (bs := []) (sy' := ⟨[(4, V (.slice none 0 0))], []⟩) (by kernel_rfl) ?_
    intro a hS
    refine wret ?_
    exact fin T hS hO (fun c => c) rfl (r := [.slice none 0 0]) (by kernel_rfl) (fun χ' hM hC => ⟨[], hm, none, 0, rfl, RS.empty _ _ _⟩)
  · replace hm := hm.2 hb
    refine wskip ?_
    refine wcut (fun a w => ∃ (ρ : Nat → Nat) (χ : Nat → Nat) (t_105 : List (List Int)) (a106 : Option Addr) (c107 : Nat), VC48_J1 P O Q t_105 ∧ St Try.f48.ntmps ⟨[(0, I P), (1, I O), (5, V (.slice a106 t_105.length c107))], []⟩ ρ a w χ ∧ Old w0 χ0 w χ ∧ OS (tSlice tI) 42 w χ 1005 a106 t_105 c107) ?_ ?_
    · refine regP T hS (sp := []) (ks := [0, 1, 5, 6]) (bs := []) (sy' := ⟨[(0, I P), (1, I O), (5, V (.slice none 0 0)), (6, I 0)], []⟩) (by kernel_rfl) ?_
      intro a hS
      refine wblock ?_
      obtain ⟨I3, μ3, hm0, hm⟩ := hm
      refine wloop (σ := (List (List Int)) × Int) (fun s a w => ∃ (ρ : Nat → Nat) (χ : Nat → Nat) (a173 : Option Addr) (c174 : Nat), I3 s.1 s.2 ∧ St Try.f48.ntmps ⟨[(0, I P), (1, I O), (5, V (.slice a173 s.1.length c174)), (6, I s.2)], []⟩ ρ a w χ ∧ Old w0 χ0 w χ ∧ OS (tSlice tI) 42 w χ 1005 a173 s.1 c174) (fun s => μ3 s.1 s.2) (⟨[], 0⟩) ?_ ?_
      · exact ⟨ρ, _, none, 0, hm0, hS.sel [0, 1, 5, 6] [] (by kernel_rfl), hO, (OS.nil _ _ _ _ _)⟩
      · rintro ⟨t_172, o_176⟩ a w235 ⟨ρ, χ234, a173, c174, hI, hS, hO, h175⟩
        replace hm := hm t_172 o_176 hI
        clear hI hm0
        refine wseq ?_
        refine regP T hS (sp := []) (ks := [0, 1, 5, 6, 19]) (bs := []) (sy' := ⟨[(0, I P), (1, I O), (5, V (.slice a173 t_172.length c174)), (6, I o_176), (19, B (decide (o_176 < P)))], []⟩) (by kernel_rfl) ?_
        intro a hS
        refine wcond hS (b := decide (o_176 < P)) (by kernel_rfl) (fun hb => ?_) (fun hb => ?_)
        · replace hm := hm.1 hb
          refine wskip ?_
          refine wseq ?_
          refine wblock ?_
          refine regP T hS (sp := []) (ks := [0, 1, 5, 6, 7]) (bs := []) (sy' := ⟨[(0, I P), (1, I O), (5, V (.slice a173 t_172.length c174)), (6, I o_176), (7, V (.slice none 0 0))], []⟩) (by kernel_rfl) ?_
          intro a hS
          refine wcut (fun a w => ∃ (ρ : Nat → Nat) (χ : Nat → Nat) (t_177 : List (List Int)) (A_181 : List Int) (a178 : Option Addr) (c179 : Nat) (a182 : Option Addr) (c183 : Nat), VC48_J4 I3 μ3 t_172 o_176 t_177 A_181 ∧ St Try.f48.ntmps ⟨[(0, I P), (1, I O), (5, V (.slice a178 t_177.length c179)), (6, I o_176), (7, V (.slice a182 A_181.length c183))], []⟩ ρ a w χ ∧ Old w0 χ0 w χ ∧ OS (tSlice tI) 42 w χ 1005 a178 t_177 c179 ∧ OS tI 3 w χ 1008 a182 A_181 c183) ?_ ?_
          · refine regP T hS (sp := []) (ks := [0, 1, 5, 6, 7, 8]) (bs := []) (sy' := ⟨[(0, I P), (1, I O), (5, V (.slice a173 t_172.length c174)), (6, I o_176), (7, V (.slice none 0 0)), (8, I 0)], []⟩) (by kernel_rfl) ?_
            intro a hS
            refine wblock ?_
            obtain ⟨I4, μ4, hm0, hm⟩ := hm
            refine wloop (σ := (List (List Int)) × (List Int) × Int) (fun s a w => ∃ (ρ : Nat → Nat) (χ : Nat → Nat) (a209 : Option Addr) (c210 : Nat) (a213 : Option Addr) (c214 : Nat), I4 s.1 s.2.1 s.2.2 ∧ St Try.f48.ntmps ⟨[(0, I P), (1, I O), (5, V (.slice a209 s.1.length c210)), (6, I o_176), (7, V (.slice a213 s.2.1.length c214)), (8, I s.2.2)], []⟩ ρ a w χ ∧ Old w0 χ0 w χ ∧ OS (tSlice tI) 42 w χ 1005 a209 s.1 c210 ∧ OS tI 3 w χ 1008 a213 s.2.1 c214) (fun s => μ4 s.1 s.2.1 s.2.2) (⟨t_172, [], 0⟩) ?_ ?_
            · exact ⟨ρ, _, a173, c174, none, 0, hm0, hS.sel [0, 1, 5, 6, 7, 8] [] (by kernel_rfl), hO, h175, (OS.nil _ _ _ _ _)⟩
            · rintro ⟨t_208, A_212, r_216⟩ a w231 ⟨ρ, χ230, a209, c210, a213, c214, hI, hS, hO, h211, h215⟩
              replace hm := hm t_208 A_212 r_216 hI
              clear hI hm0
              refine wseq ?_
              refine regP T hS (sp := []) (ks := [0, 1, 5, 6, 7, 8, 24]) (bs := []) (sy' := ⟨[(0, I P), (1, I O), (5, V (.slice a209 t_208.length c210)), (6, I o_176), (7, V (.slice a213 A_212.length c214)), (8, I r_216), (24, B (decide (r_216 < P)))], []⟩) (by kernel_rfl) ?_
              intro a hS
              refine wcond hS (b := decide (r_216 < P)) (by kernel_rfl) (fun hb => ?_) (fun hb => ?_)
              · replace hm := hm.1 hb
                refine wskip ?_
                refine wseq ?_
                refine wblock ?_
                refine region ?_
                refine opsP T hS 5 (sp := []) (ks := [0, 1, 5, 6, 7, 8, 27, 28, 29, 30, 31]) (bs := []) (sy' := ⟨[(0, I P), (1, I O), (5, V (.slice a209 t_208.length c210)), (6, I o_176), (7, V (.slice a213 A_212.length c214)), (8, I r_216), (27, V (.slice a213 A_212.length c214)), (28, I P), (29, I O), (30, I o_176), (31, I r_216)], []⟩) (by kernel_rfl) ?_
                intro a hS
                refine op1 (call hS (by kernel_rfl) (by kernel_rfl) hb71 (by kernel_rfl) (fun _ _ => rfl) (k71 _ _ P O o_176 r_216) ?_)
                intro v217 a w218 χ219 hE hp hS
                replace hO := hO.mv hE rfl rfl
                replace h211 := h211.mv hE rfl rfl
                replace h215 := h215.mv hE rfl rfl
                clear hE
                obtain ⟨r220, hr⟩ : ∃ r, ref31_At P O o_176 r_216 = r := ⟨_, rfl⟩
                replace hm := hm r220 hr
                rw [hr] at hp
                clear hr
                subst hp
                refine op1 (lit (E := 3) (col := 0) (T := tI) (vals := [.int .i64 r220]) (ys := [r220]) T hS (by kernel_rfl) (by kernel_rfl) (by kernel_rfl) (by kernel_rfl) (by exact ⟨rfl, trivial⟩) rfl (by kernel_rfl) (by kernel_rfl) (by kernel_rfl) (by kernel_rfl) ?_)
                intro b221 a w222 χ223 hE h224 hN hS
                clear hN
                replace hO := hO.mv hE rfl rfl
                replace h211 := h211.mv hE rfl rfl
                replace h215 := h215.mv hE rfl rfl
                clear hE
                replace h224 := h224.rs0
                obtain ⟨hq, hm⟩ := hm
                obtain ⟨news, hN⟩ := h224.src
                refine op1 (append (E := 3) (T := tI) (col := 1008) (xs := A_212) T hS (by kernel_rfl) (by kernel_rfl) (by kernel_rfl) (by kernel_rfl) h215 hN (by kernel_rfl) (by kernel_rfl) (by kernel_rfl) (by kernel_rfl) hq ?_)
                intro a228 c229 a w225 χ226 hE h227 hS
                clear hq hN
                clear h215
                replace hO := hO.mv hE rfl rfl
                replace h211 := h211.mv hE rfl rfl
                replace h224 := h224.mv hE rfl
                clear hE
                refine endP T hS (sp := []) (ks := [0, 1, 5, 6, 7, 8]) (bs := []) (sy' := ⟨[(0, I P), (1, I O), (5, V (.slice a209 t_208.length c210)), (6, I o_176), (7, V (.slice a228 (A_212 ++ [r220]).length c229)), (8, I r_216)], []⟩) (by kernel_rfl) ?_
                intro a hS
                refine region (endP T hS (sp := []) (ks := [0, 1, 5, 6, 7, 8]) (bs := []) (sy' := ⟨[(0, I P), (1, I O), (5, V (.slice a209 t_208.length c210)), (6, I o_176), (7, V (.slice a228 (A_212 ++ [r220]).length c229)), (8, I (IntKind.i64.wrap (r_216 + 1)))], []⟩) (by kernel_rfl) ?_)
                intro a hS
                exact ⟨⟨t_208, A_212 ++ [r220], IntKind.i64.wrap (r_216 + 1)⟩, ⟨ρ, _, a209, c210, a228, c229, hm.1, hS.sel [0, 1, 5, 6, 7, 8] [] (by kernel_rfl), hO, h211, h227⟩, hm.2⟩
              · replace hm := hm.2 hb
                refine wexit (by rfl) ?_
                exact ⟨ρ, _, t_208, A_212, a209, c210, a213, c214, hm, hS.sel [0, 1, 5, 6, 7] [] (by kernel_rfl), hO, h211, h215⟩
          · rintro a w233 ⟨ρ, χ232, t_177, A_181, a178, c179, a182, c183, hm, hS, hO, h180, h184⟩
            unfold VC48_J4 at hm
            refine regO ?_
            refine opsP T hS 2 (sp := []) (ks := [0, 1, 5, 6, 7, 35, 36]) (bs := []) (sy' := ⟨[(0, I P), (1, I O), (5, V (.slice a178 t_177.length c179)), (6, I o_176), (7, V (.slice a182 A_181.length c183)), (35, V (.slice a178 t_177.length c179)), (36, V (.slice a182 A_181.length c183))], []⟩) (by kernel_rfl) ?_
            intro a hS
            obtain ⟨χ185, hE, hF⟩ := h184.freeze (by decide)
            replace hS := hS.ev hE (xone_box (by kernel_rfl))
            replace hO := hO.mv hE rfl rfl
            replace h180 := h180.mv hE rfl rfl
            have h186 := hF; clear hE hF
            refine op1 (lit (E := 42) (col := 0) (T := (tSlice tI)) (vals := [.slice a182 A_181.length c183]) (ys := [A_181]) T hS (by kernel_rfl) (by kernel_rfl) (by kernel_rfl) (by kernel_rfl) (by exact ⟨⟨a182, c183, rfl, h186⟩, trivial⟩) rfl (by kernel_rfl) (by kernel_rfl) (by kernel_rfl) (by kernel_rfl) ?_)
            intro b187 a w188 χ189 hE h190 hN hS
            clear hN
            replace hO := hO.mv hE rfl rfl
            replace h180 := h180.mv hE rfl rfl
            replace h186 := h186.mv hE rfl
            clear hE
            replace h190 := h190.rs0
            obtain ⟨hq, hm⟩ := hm
            obtain ⟨news, hN⟩ := h190.src
            refine op1 (append (E := 42) (T := (tSlice tI)) (col := 1005) (xs := t_177) T hS (by kernel_rfl) (by kernel_rfl) (by kernel_rfl) (by kernel_rfl) h180 hN (by kernel_rfl) (by kernel_rfl) (by kernel_rfl) (by kernel_rfl) hq ?_)
            intro a194 c195 a w191 χ192 hE h193 hS
            clear hq hN
            clear h180
            replace hO := hO.mv hE rfl rfl
            replace h186 := h186.mv hE rfl
            replace h190 := h190.mv hE rfl
            clear hE
            refine endP T hS (sp := []) (ks := [0, 1, 5, 6, 7]) (bs := []) (sy' := ⟨[(0, I P), (1, I O), (5, V (.slice a194 (t_177 ++ [A_181]).length c195)), (6, I o_176), (7, V (.slice a182 A_181.length c183))], []⟩) (by kernel_rfl) ?_
            intro a hS
            refine region ?_
            refine opsP T hS 2 (sp := []) (ks := [0, 1, 5, 6, 39, 40]) (bs := []) (sy' := ⟨[(0, I P), (1, I O), (5, V (.slice a194 (t_177 ++ [A_181]).length c195)), (6, I o_176), (39, V (.slice a194 (t_177 ++ [A_181]).length c195)), (40, V (.slice a182 A_181.length c183))], []⟩) (by kernel_rfl) ?_
            intro a hS
            obtain ⟨hq, hm⟩ := hm
            refine op1 (call hS (by kernel_rfl) (by kernel_rfl) hb50 (by kernel_rfl) (fun _ _ => rfl) (k50 _ _ A_181 a182 c183 hq h186) ?_)
            intro v196 a w197 χ198 hE hp hS
            clear hq
            replace hO := hO.mv hE rfl rfl
            replace h186 := h186.mv hE rfl
            replace h193 := h193.mv hE rfl rfl
            clear hE
            obtain ⟨a200, c201, hp, h202⟩ := hp
            obtain ⟨r199, hr⟩ : ∃ r, ref32_Most A_181 = r := ⟨_, rfl⟩
            replace hm := hm r199 hr
            rw [hr] at hp h202
            clear hr
            subst hp
            replace hm := hm (h202.sm (by kernel_rfl))
            obtain ⟨hq, hm⟩ := hm
            obtain ⟨news, hN⟩ := h202.src
            refine op1 (append (E := 42) (T := (tSlice tI)) (col := 1005) (xs := t_177 ++ [A_181]) T hS (by kernel_rfl) (by kernel_rfl) (by kernel_rfl) (by kernel_rfl) h193 hN (by kernel_rfl) (by kernel_rfl) (by kernel_rfl) (by kernel_rfl) hq ?_)
            intro a206 c207 a w203 χ204 hE h205 hS
            clear hq hN
            clear h193
            replace hO := hO.mv hE rfl rfl
            replace h186 := h186.mv hE rfl
            replace h202 := h202.mv hE rfl
            clear hE
            refine endP T hS (sp := []) (ks := [0, 1, 5, 6]) (bs := []) (sy' := ⟨[(0, I P), (1, I O), (5, V (.slice a206 ((t_177 ++ [A_181]) ++ r199).length c207)), (6, I o_176)], []⟩) (by kernel_rfl) ?_
            intro a hS
            refine region (endP T hS (sp := []) (ks := [0, 1, 5, 6]) (bs := []) (sy' := ⟨[(0, I P), (1, I O), (5, V (.slice a206 ((t_177 ++ [A_181]) ++ r199).length c207)), (6, I (IntKind.i64.wrap (o_176 + 1)))], []⟩) (by kernel_rfl) ?_)
            intro a hS
            exact ⟨⟨(t_177 ++ [A_181]) ++ r199, IntKind.i64.wrap (o_176 + 1)⟩, ⟨ρ, _, a206, c207, hm.1, hS.sel [0, 1, 5, 6] [] (by kernel_rfl), hO, h205⟩, hm.2⟩
        · replace hm := hm.2 hb
          refine wexit (by rfl) ?_
          exact ⟨ρ, _, t_172, a173, c174, hm, hS.sel [0, 1, 5] [] (by kernel_rfl), hO, h175⟩
    · rintro a w237 ⟨ρ, χ236, t_105, a106, c107, hm, hS, hO, h108⟩
      unfold VC48_J1 at hm
      refine wcut (fun a w => ∃ (ρ : Nat → Nat) (χ : Nat → Nat) (t_109 : List (List Int)) (a110 : Option Addr) (c111 : Nat), VC48_J2 Q t_109 ∧ St Try.f48.ntmps ⟨[(5, V (.slice a110 t_109.length c111))], []⟩ ρ a w χ ∧ Old w0 χ0 w χ ∧ OS (tSlice tI) 42 w χ 1005 a110 t_109 c111) ?_ ?_
      · refine regP T hS (sp := []) (ks := [0, 1, 5, 9]) (bs := []) (sy' := ⟨[(0, I P), (1, I O), (5, V (.slice a106 t_105.length c107)), (9, I 0)], []⟩) (by kernel_rfl) ?_
        intro a hS
        refine wblock ?_
        obtain ⟨I1, μ1, hm0, hm⟩ := hm
        refine wloop (σ := (List (List Int)) × Int) (fun s a w => ∃ (ρ : Nat → Nat) (χ : Nat → Nat) (a116 : Option Addr) (c117 : Nat), I1 s.1 s.2 ∧ St Try.f48.ntmps ⟨[(0, I P), (1, I O), (5, V (.slice a116 s.1.length c117)), (9, I s.2)], []⟩ ρ a w χ ∧ Old w0 χ0 w χ ∧ OS (tSlice tI) 42 w χ 1005 a116 s.1 c117) (fun s => μ1 s.1 s.2) (⟨t_105, 0⟩) ?_ ?_
        · exact ⟨ρ, _, a106, c107, hm0, hS.sel [0, 1, 5, 9] [] (by kernel_rfl), hO, h108⟩
        · rintro ⟨t_115, r_119⟩ a w169 ⟨ρ, χ168, a116, c117, hI, hS, hO, h118⟩
          replace hm := hm t_115 r_119 hI
          clear hI hm0
          refine wseq ?_
          refine regP T hS (sp := []) (ks := [0, 1, 5, 9, 45]) (bs := []) (sy' := ⟨[(0, I P), (1, I O), (5, V (.slice a116 t_115.length c117)), (9, I r_119), (45, B (decide (r_119 < P)))], []⟩) (by kernel_rfl) ?_
          intro a hS
          refine wcond hS (b := decide (r_119 < P)) (by kernel_rfl) (fun hb => ?_) (fun hb => ?_)
          · replace hm := hm.1 hb
            refine wskip ?_
            refine wseq ?_
            refine wblock ?_
            refine regP T hS (sp := []) (ks := [0, 1, 5, 9, 10]) (bs := []) (sy' := ⟨[(0, I P), (1, I O), (5, V (.slice a116 t_115.length c117)), (9, I r_119), (10, V (.slice none 0 0))], []⟩) (by kernel_rfl) ?_
            intro a hS
            refine wcut (fun a w => ∃ (ρ : Nat → Nat) (χ : Nat → Nat) (t_120 : List (List Int)) (a_124 : List Int) (a121 : Option Addr) (c122 : Nat) (a125 : Option Addr) (c126 : Nat), VC48_J3 I1 μ1 t_115 r_119 t_120 a_124 ∧ St Try.f48.ntmps ⟨[(0, I P), (1, I O), (5, V (.slice a121 t_120.length c122)), (9, I r_119), (10, V (.slice a125 a_124.length c126))], []⟩ ρ a w χ ∧ Old w0 χ0 w χ ∧ OS (tSlice tI) 42 w χ 1005 a121 t_120 c122 ∧ OS tI 3 w χ 1011 a125 a_124 c126) ?_ ?_
            · refine regP T hS (sp := []) (ks := [0, 1, 5, 9, 10, 11]) (bs := []) (sy' := ⟨[(0, I P), (1, I O), (5, V (.slice a116 t_115.length c117)), (9, I r_119), (10, V (.slice none 0 0)), (11, I 0)], []⟩) (by kernel_rfl) ?_
              intro a hS
              refine wblock ?_
              obtain ⟨I2, μ2, hm0, hm⟩ := hm
              refine wloop (σ := (List (List Int)) × (List Int) × Int) (fun s a w => ∃ (ρ : Nat → Nat) (χ : Nat → Nat) (a143 : Option Addr) (c144 : Nat) (a147 : Option Addr) (c148 : Nat), I2 s.1 s.2.1 s.2.2 ∧ St Try.f48.ntmps ⟨[(0, I P), (1, I O), (5, V (.slice a143 s.1.length c144)), (9, I r_119), (10, V (.slice a147 s.2.1.length c148)), (11, I s.2.2)], []⟩ ρ a w χ ∧ Old w0 χ0 w χ ∧ OS (tSlice tI) 42 w χ 1005 a143 s.1 c144 ∧ OS tI 3 w χ 1011 a147 s.2.1 c148) (fun s => μ2 s.1 s.2.1 s.2.2) (⟨t_115, [], 0⟩) ?_ ?_
              · exact ⟨ρ, _, a116, c117, none, 0, hm0, hS.sel [0, 1, 5, 9, 10, 11] [] (by kernel_rfl), hO, h118, (OS.nil _ _ _ _ _)⟩
              · rintro ⟨t_142, a_146, y_150⟩ a w165 ⟨ρ, χ164, a143, c144, a147, c148, hI, hS, hO, h145, h149⟩
                replace hm := hm t_142 a_146 y_150 hI
                clear hI hm0
                refine wseq ?_
                refine regP T hS (sp := []) (ks := [0, 1, 5, 9, 10, 11, 50]) (bs := []) (sy' := ⟨[(0, I P), (1, I O), (5, V (.slice a143 t_142.length c144)), (9, I r_119), (10, V (.slice a147 a_146.length c148)), (11, I y_150), (50, B (decide (y_150 < P)))], []⟩) (by kernel_rfl) ?_
                intro a hS
                refine wcond hS (b := decide (y_150 < P)) (by kernel_rfl) (fun hb => ?_) (fun hb => ?_)
                · replace hm := hm.1 hb
                  refine wskip ?_
                  refine wseq ?_
                  refine wblock ?_
                  refine region ?_
                  refine opsP T hS 5 (sp := []) (ks := [0, 1, 5, 9, 10, 11, 53, 54, 55, 56, 57]) (bs := []) (sy' := ⟨[(0, I P), (1, I O), (5, V (.slice a143 t_142.length c144)), (9, I r_119), (10, V (.slice a147 a_146.length c148)), (11, I y_150), (53, V (.slice a147 a_146.length c148)), (54, I P), (55, I O), (56, I y_150), (57, I r_119)], []⟩) (by kernel_rfl) ?_
                  intro a hS
                  refine op1 (call hS (by kernel_rfl) (by kernel_rfl) hb71 (by kernel_rfl) (fun _ _ => rfl) (k71 _ _ P O y_150 r_119) ?_)
                  intro v151 a w152 χ153 hE hp hS
                  replace hO := hO.mv hE rfl rfl
                  replace h145 := h145.mv hE rfl rfl
                  replace h149 := h149.mv hE rfl rfl
                  clear hE
                  obtain ⟨r154, hr⟩ : ∃ r, ref31_At P O y_150 r_119 = r := ⟨_, rfl⟩
                  replace hm := hm r154 hr
                  rw [hr] at hp
                  clear hr
                  subst hp
                  refine op1 (lit (E := 3) (col := 0) (T := tI) (vals := [.int .i64 r154]) (ys := [r154]) T hS (by kernel_rfl) (by kernel_rfl) (by kernel_rfl) (by kernel_rfl) (by exact ⟨rfl, trivial⟩) rfl (by kernel_rfl) (by kernel_rfl) (by kernel_rfl) (by kernel_rfl) ?_)
                  intro b155 a w156 χ157 hE h158 hN hS
                  clear hN
                  replace hO := hO.mv hE rfl rfl
                  replace h145 := h145.mv hE rfl rfl
                  replace h149 := h149.mv hE rfl rfl
                  clear hE
                  replace h158 := h158.rs0
                  obtain ⟨hq, hm⟩ := hm
                  obtain ⟨news, hN⟩ := h158.src
                  refine op1 (append (E := 3) (T := tI) (col := 1011) (xs := a_146) T hS (by kernel_rfl) (by kernel_rfl) (by kernel_rfl) (by kernel_rfl) h149 hN (by kernel_rfl) (by kernel_rfl) (by kernel_rfl) (by kernel_rfl) hq ?_)
                  intro a162 c163 a w159 χ160 hE h161 hS
                  clear hq hN
                  clear h149
                  replace hO := hO.mv hE rfl rfl
                  replace h145 := h145.mv hE rfl rfl
                  replace h158 := h158.mv hE rfl
                  clear hE
                  refine endP T hS (sp := []) (ks := [0, 1, 5, 9, 10, 11]) (bs := []) (sy' := ⟨[(0, I P), (1, I O), (5, V (.slice a143 t_142.length c144)), (9, I r_119), (10, V (.slice a162 (a_146 ++ [r154]).length c163)), (11, I y_150)], []⟩) (by kernel_rfl) ?_
                  intro a hS
                  refine region (endP T hS (sp := []) (ks := [0, 1, 5, 9, 10, 11]) (bs := []) (sy' := ⟨[(0, I P), (1, I O), (5, V (.slice a143 t_142.length c144)), (9, I r_119), (10, V (.slice a162 (a_146 ++ [r154]).length c163)), (11, I (IntKind.i64.wrap (y_150 + 1)))], []⟩) (by kernel_rfl) ?_)
                  intro a hS
                  exact ⟨⟨t_142, a_146 ++ [r154], IntKind.i64.wrap (y_150 + 1)⟩, ⟨ρ, _, a143, c144, a162, c163, hm.1, hS.sel [0, 1, 5, 9, 10, 11] [] (by kernel_rfl), hO, h145, h161⟩, hm.2⟩
                · replace hm := hm.2 hb
                  refine wexit (by rfl) ?_
                  exact ⟨ρ, _, t_142, a_146, a143, c144, a147, c148, hm, hS.sel [0, 1, 5, 9, 10] [] (by kernel_rfl), hO, h145, h149⟩
            · rintro a w167 ⟨ρ, χ166, t_120, a_124, a121, c122, a125, c126, hm, hS, hO, h123, h127⟩
              unfold VC48_J3 at hm
              refine region ?_
              refine opsP T hS 2 (sp := []) (ks := [0, 1, 5, 9, 61, 62]) (bs := []) (sy' := ⟨[(0, I P), (1, I O), (5, V (.slice a121 t_120.length c122)), (9, I r_119), (61, V (.slice a121 t_120.length c122)), (62, V (.slice a125 a_124.length c126))], []⟩) (by kernel_rfl) ?_
              intro a hS
              obtain ⟨χ128, hE, hF⟩ := h127.freeze (by decide)
              replace hS := hS.ev hE (xone_box (by kernel_rfl))
              replace hO := hO.mv hE rfl rfl
              replace h123 := h123.mv hE rfl rfl
              have h129 := hF; clear hE hF
              obtain ⟨hq, hm⟩ := hm
              refine op1 (call hS (by kernel_rfl) (by kernel_rfl) hb50 (by kernel_rfl) (fun _ _ => rfl) (k50 _ _ a_124 a125 c126 hq h129) ?_)
              intro v130 a w131 χ132 hE hp hS
              clear hq
              replace hO := hO.mv hE rfl rfl
              replace h123 := h123.mv hE rfl rfl
              replace h129 := h129.mv hE rfl
              clear hE
              obtain ⟨a134, c135, hp, h136⟩ := hp
              obtain ⟨r133, hr⟩ : ∃ r, ref32_Most a_124 = r := ⟨_, rfl⟩
              replace hm := hm r133 hr
              rw [hr] at hp h136
              clear hr
              subst hp
              replace hm := hm (h136.sm (by kernel_rfl))
              obtain ⟨hq, hm⟩ := hm
              obtain ⟨news, hN⟩ := h136.src
              refine op1 (append (E := 42) (T := (tSlice tI)) (col := 1005) (xs := t_120) T hS (by kernel_rfl) (by kernel_rfl) (by kernel_rfl) (by kernel_rfl) h123 hN (by kernel_rfl) (by kernel_rfl) (by kernel_rfl) (by kernel_rfl) hq ?_)
              intro a140 c141 a w137 χ138 hE h139 hS
              clear hq hN
              clear h123
              replace hO := hO.mv hE rfl rfl
              replace h129 := h129.mv hE rfl
              replace h136 := h136.mv hE rfl
              clear hE
              refine endP T hS (sp := []) (ks := [0, 1, 5, 9]) (bs := []) (sy' := ⟨[(0, I P), (1, I O), (5, V (.slice a140 (t_120 ++ r133).length c141)), (9, I r_119)], []⟩) (by kernel_rfl) ?_
              intro a hS
              refine region (endP T hS (sp := []) (ks := [0, 1, 5, 9]) (bs := []) (sy' := ⟨[(0, I P), (1, I O), (5, V (.slice a140 (t_120 ++ r133).length c141)), (9, I (IntKind.i64.wrap (r_119 + 1)))], []⟩) (by kernel_rfl) ?_)
              intro a hS
              exact ⟨⟨t_120 ++ r133, IntKind.i64.wrap (r_119 + 1)⟩, ⟨ρ, _, a140, c141, hm.1, hS.sel [0, 1, 5, 9] [] (by kernel_rfl), hO, h139⟩, hm.2⟩
          · replace hm := hm.2 hb
            refine wexit (by rfl) ?_
            exact ⟨ρ, _, t_115, a116, c117, hm, hS.sel [5] [] (by kernel_rfl), hO, h118⟩
      · rintro a w171 ⟨ρ, χ170, t_109, a110, c111, hm, hS, hO, h112⟩
        unfold VC48_J2 at hm
        refine regP T hS (sp := []) (ks := [4]) (bs := []) (sy' := ⟨[(4, V (.slice a110 t_109.length c111))], []⟩) (by kernel_rfl) ?_
        intro a hS
        refine wret ?_
        obtain ⟨χ113, hE, hF⟩ := h112.freeze (by decide)
        replace hS := hS.ev hE (xone_box (by kernel_rfl))
        replace hO := hO.mv hE rfl rfl
        have h114 := hF; clear hE hF
        exact fin T hS hO (fun c => c) rfl (r := [.slice a110 t_109.length c111]) (by kernel_rfl) (fun χ' hM hC => ⟨t_109, hm, a110, c111, rfl, h114.m0 hM⟩)
theorem C48 (k22 : S22) (k50 : S50) (k71 : S71) (v : ∀ (P : Int) (O : Int), VC48 P O (fun r => r = ref32_Clauses P O)) : S48 := by
  intro w χ P O    
  refine (W48 k22 k50 k71 w χ P O    _ (v P O)).mono ?_
  rintro _ _ _ _ ⟨r, rfl, h⟩
  exact h
def S72 : Prop := ∀ (w : World) (χ : Nat → Nat), Ret Try.prog 72 #[] xnone w χ (fun w χ' v => v = .agg #[.int .i64 law32_two.Ops, .int .i64 law32_two.States])
theorem hb72 : hasBody Try.prog 72 = true := by kernel_rfl
/-- replevin/replevinlaw32.two -/
theorem W72 (w0 : World) (χ0 : Nat → Nat) (Q : Numbering_Size → Prop) (hm : VC72 Q) :
    Ret Try.prog 72 #[] xnone w0 χ0 (fun w χ' v => ∃ r, Q r ∧ v = .agg #[.int .i64 r.Ops, .int .i64 r.States]) := by
  unfold VC72 at hm
  refine enter Try.func72 rfl (vals := []) (by kernel_rfl) ?_
  intro ρ a hS hO hM
  clear hM
  refine regM T hS (sp := []) (ks := [0]) (bs := [1]) (sy' := ⟨[(0, Pt 1 0)], [(1, (23, [I 0, I 0]))]⟩) (by kernel_rfl) ?_
  intro ρ a w103 χ104 hS hE hr
  replace hO := hO.mv hE rfl rfl
  clear hE hr
  refine regM T hS (sp := []) (ks := [0]) (bs := [1]) (sy' := ⟨[(0, Pt 1 0)], [(1, (23, [I 2, I 1]))]⟩) (by kernel_rfl) ?_
  intro ρ a w101 χ102 hS hE hr
  replace hO := hO.mv hE rfl rfl
  clear hE hr
  refine wret ?_
  exact fin T hS hO (fun c => c) rfl (r := [.agg #[.int .i64 2, .int .i64 1]]) (by kernel_rfl) (fun χ' hM hC => ⟨(⟨2, 1⟩ : Numbering_Size), hm, rfl⟩)
theorem C72 (v : ∀ (_ : Unit), VC72 (fun r => r = law32_two)) : S72 := by
  intro w χ     
  refine (W72 w χ     _ (v ())).mono ?_
  rintro _ _ _ _ ⟨r, rfl, h⟩
  exact h
def S46 : Prop := ∀ (w : World) (χ : Nat → Nat), Ret Try.prog 46 #[] xnone w χ (fun w χ' v => v = .bool law32_awake)
theorem hb46 : hasBody Try.prog 46 = true := by kernel_rfl
/-- replevin/replevinlaw32.awake -/
theorem W46 (k31 : S31) (k34 : S34) (k45 : S45) (k47 : S47) (k49 : S49) (k51 : S51) (k72 : S72) (w0 : World) (χ0 : Nat → Nat) (Q : Bool → Prop) (hm : VC46 Q) :
    Ret Try.prog 46 #[] xnone w0 χ0 (fun w χ' v => ∃ r, Q r ∧ v = .bool r) := by
  unfold VC46 at hm
  refine enter Try.func46 rfl (vals := []) (by kernel_rfl) ?_
  intro ρ a hS hO hM
  clear hM
  refine regP T hS (sp := []) (ks := []) (bs := []) (sy' := ⟨[], []⟩) (by kernel_rfl) ?_
  intro a hS
  refine regO ?_
  refine op1 (call hS (by kernel_rfl) (by kernel_rfl) hb72 (by kernel_rfl) (fun _ _ => rfl) (k72 _ _) ?_)
  intro v101 a w102 χ103 hE hp hS
  replace hO := hO.mv hE rfl rfl
  clear hE
  obtain ⟨r104, hr⟩ : ∃ r, law32_two = r := ⟨_, rfl⟩
  replace hm := hm r104 hr
  rw [hr] at hp
  clear hr
  subst hp
  refine op1 (lit (E := 4) (col := 0) (T := tBool) (vals := [.bool false, .bool true, .bool true, .bool false, .bool false, .bool false, .bool false, .bool false, .bool false]) (ys := [false, true, true, false, false, false, false, false, false]) T hS (by kernel_rfl) (by kernel_rfl) (by kernel_rfl) (by kernel_rfl) (by exact ⟨rfl, rfl, rfl, rfl, rfl, rfl, rfl, rfl, rfl, trivial⟩) rfl (by kernel_rfl) (by kernel_rfl) (by kernel_rfl) (by kernel_rfl) ?_)
  intro b105 a w106 χ107 hE h108 hN hS
  clear hN
  replace hO := hO.mv hE rfl rfl
  clear hE
  replace h108 := h108.rs0
  refine op1 (call hS (by kernel_rfl) (by kernel_rfl) hb51 (by kernel_rfl) (fun _ _ => rfl) (k51 _ _ r104 [false, true, true, false, false, false, false, false, false] (some ⟨b105, 0, none⟩) 9 h108) ?_)
  intro v109 a w110 χ111 hE hp hS
  replace hO := hO.mv hE rfl rfl
  replace h108 := h108.mv hE rfl
  clear hE
  obtain ⟨a113, c114, hp, h115⟩ := hp
  obtain ⟨r112, hr⟩ : ∃ r, places_Order r104 [false, true, true, false, false, false, false, false, false] = r := ⟨_, rfl⟩
  replace hm := hm r112 hr
  rw [hr] at hp h115
  clear hr
  subst hp
  replace hm := hm (h115.sm (by kernel_rfl))
  refine endP T hS (sp := []) (ks := [1, 2]) (bs := []) (sy' := ⟨[(1, V (.slice a113 r112.1.length c114)), (2, B r112.2)], []⟩) (by kernel_rfl) ?_
  intro a hS
  refine regO ?_
  refine op1 (call hS (by kernel_rfl) (by kernel_rfl) hb72 (by kernel_rfl) (fun _ _ => rfl) (k72 _ _) ?_)
  intro v116 a w117 χ118 hE hp hS
  replace hO := hO.mv hE rfl rfl
  replace h115 := h115.mv hE rfl
  clear hE
  obtain ⟨r119, hr⟩ : ∃ r, law32_two = r := ⟨_, rfl⟩
  replace hm := hm r119 hr
  rw [hr] at hp
  clear hr
  subst hp
  refine op1 (lit (E := 4) (col := 0) (T := tBool) (vals := [.bool true, .bool true, .bool false, .bool false, .bool false, .bool false, .bool false, .bool false, .bool false]) (ys := [true, true, false, false, false, false, false, false, false]) T hS (by kernel_rfl) (by kernel_rfl) (by kernel_rfl) (by kernel_rfl) (by exact ⟨rfl, rfl, rfl, rfl, rfl, rfl, rfl, rfl, rfl, trivial⟩) rfl (by kernel_rfl) (by kernel_rfl) (by kernel_rfl) (by kernel_rfl) ?_)
  intro b120 a w121 χ122 hE h123 hN hS
  clear hN
  replace hO := hO.mv hE rfl rfl
  replace h115 := h115.mv hE rfl
  clear hE
  replace h123 := h123.rs0
  refine op1 (call hS (by kernel_rfl) (by kernel_rfl) hb51 (by kernel_rfl) (fun _ _ => rfl) (k51 _ _ r119 [true, true, false, false, false, false, false, false, false] (some ⟨b120, 0, none⟩) 9 h123) ?_)
  intro v124 a w125 χ126 hE hp hS
  replace hO := hO.mv hE rfl rfl
  replace h115 := h115.mv hE rfl
  replace h123 := h123.mv hE rfl
  clear hE
  obtain ⟨a128, c129, hp, h130⟩ := hp
  obtain ⟨r127, hr⟩ : ∃ r, places_Order r119 [true, true, false, false, false, false, false, false, false] = r := ⟨_, rfl⟩
  replace hm := hm r127 hr
  rw [hr] at hp h130
  clear hr
  subst hp
  replace hm := hm (h130.sm (by kernel_rfl))
  refine endP T hS (sp := []) (ks := [1, 2, 4]) (bs := []) (sy' := ⟨[(1, V (.slice a113 r112.1.length c114)), (2, B r112.2), (4, B r127.2)], []⟩) (by kernel_rfl) ?_
  intro a hS
  refine regO ?_
  refine op1 (call hS (by kernel_rfl) (by kernel_rfl) hb72 (by kernel_rfl) (fun _ _ => rfl) (k72 _ _) ?_)
  intro v131 a w132 χ133 hE hp hS
  replace hO := hO.mv hE rfl rfl
  replace h115 := h115.mv hE rfl
  clear hE
  obtain ⟨r134, hr⟩ : ∃ r, law32_two = r := ⟨_, rfl⟩
  replace hm := hm r134 hr
  rw [hr] at hp
  clear hr
  subst hp
  refine op1 (lit (E := 3) (col := 0) (T := tI) (vals := [.int .i64 1, .int .i64 0]) (ys := [1, 0]) T hS (by kernel_rfl) (by kernel_rfl) (by kernel_rfl) (by kernel_rfl) (by exact ⟨rfl, rfl, trivial⟩) rfl (by kernel_rfl) (by kernel_rfl) (by kernel_rfl) (by kernel_rfl) ?_)
  intro b135 a w136 χ137 hE h138 hN hS
  clear hN
  replace hO := hO.mv hE rfl rfl
  replace h115 := h115.mv hE rfl
  clear hE
  replace h138 := h138.rs0
  refine op1 (call hS (by kernel_rfl) (by kernel_rfl) hb45 (by kernel_rfl) (fun _ _ => rfl) (k45 _ _ r134 [1, 0] (some ⟨b135, 0, none⟩) 2 h138) ?_)
  intro v139 a w140 χ141 hE hp hS
  replace hO := hO.mv hE rfl rfl
  replace h115 := h115.mv hE rfl
  replace h138 := h138.mv hE rfl
  clear hE
  obtain ⟨a143, c144, hp, h145⟩ := hp
  obtain ⟨r142, hr⟩ : ∃ r, places_Truths r134 [1, 0] = r := ⟨_, rfl⟩
  replace hm := hm r142 hr
  rw [hr] at hp h145
  clear hr
  subst hp
  replace hm := hm (h145.sm (by kernel_rfl))
  refine endP T hS (sp := []) (ks := [1, 2, 4, 5, 6]) (bs := []) (sy' := ⟨[(1, V (.slice a113 r112.1.length c114)), (2, B r112.2), (4, B r127.2), (5, V (.slice a143 r142.1.length c144)), (6, B r142.2)], []⟩) (by kernel_rfl) ?_
  intro a hS
  refine regO ?_
  refine op1 (call hS (by kernel_rfl) (by kernel_rfl) hb72 (by kernel_rfl) (fun _ _ => rfl) (k72 _ _) ?_)
  intro v146 a w147 χ148 hE hp hS
  replace hO := hO.mv hE rfl rfl
  replace h115 := h115.mv hE rfl
  replace h145 := h145.mv hE rfl
  clear hE
  obtain ⟨r149, hr⟩ : ∃ r, law32_two = r := ⟨_, rfl⟩
  replace hm := hm r149 hr
  rw [hr] at hp
  clear hr
  subst hp
  refine op1 (lit (E := 3) (col := 0) (T := tI) (vals := [.int .i64 1, .int .i64 1]) (ys := [1, 1]) T hS (by kernel_rfl) (by kernel_rfl) (by kernel_rfl) (by kernel_rfl) (by exact ⟨rfl, rfl, trivial⟩) rfl (by kernel_rfl) (by kernel_rfl) (by kernel_rfl) (by kernel_rfl) ?_)
  intro b150 a w151 χ152 hE h153 hN hS
  clear hN
  replace hO := hO.mv hE rfl rfl
  replace h115 := h115.mv hE rfl
  replace h145 := h145.mv hE rfl
  clear hE
  replace h153 := h153.rs0
  refine op1 (call hS (by kernel_rfl) (by kernel_rfl) hb45 (by kernel_rfl) (fun _ _ => rfl) (k45 _ _ r149 [1, 1] (some ⟨b150, 0, none⟩) 2 h153) ?_)
  intro v154 a w155 χ156 hE hp hS
  replace hO := hO.mv hE rfl rfl
  replace h115 := h115.mv hE rfl
  replace h145 := h145.mv hE rfl
  replace h153 := h153.mv hE rfl
  clear hE
  obtain ⟨a158, c159, hp, h160⟩ := hp
  obtain ⟨r157, hr⟩ : ∃ r, places_Truths r149 [1, 1] = r := ⟨_, rfl⟩
  replace hm := hm r157 hr
  rw [hr] at hp h160
  clear hr
  subst hp
  replace hm := hm (h160.sm (by kernel_rfl))
  refine endP T hS (sp := []) (ks := [1, 2, 4, 5, 6, 8]) (bs := []) (sy' := ⟨[(1, V (.slice a113 r112.1.length c114)), (2, B r112.2), (4, B r127.2), (5, V (.slice a143 r142.1.length c144)), (6, B r142.2), (8, B r157.2)], []⟩) (by kernel_rfl) ?_
  intro a hS
  refine regO ?_
  refine opsP T hS 2 (sp := []) (ks := [1, 4, 5, 6, 8, 34]) (bs := []) (sy' := ⟨[(1, V (.slice a113 r112.1.length c114)), (4, B r127.2), (5, V (.slice a143 r142.1.length c144)), (6, B r142.2), (8, B r157.2), (34, B r112.2)], []⟩) (by kernel_rfl) ?_
  intro a hS
  rcases Bool.eq_false_or_eq_true r112.2 with hb | hb
  · replace hS := hS.lit (t := 34) (by kernel_rfl) hb
    replace hm := hm.1 hb
    refine opsP T hS 1 (sp := []) (ks := [4, 5, 6, 8, 34, 35]) (bs := []) (sy' := ⟨[(4, B r127.2), (5, V (.slice a143 r142.1.length c144)), (6, B r142.2), (8, B r157.2), (34, B true), (35, V (.slice a113 r112.1.length c114))], []⟩) (by kernel_rfl) ?_
    intro a hS
    refine op1 (lit (E := 3) (col := 0) (T := tI) (vals := [.int .i64 1, .int .i64 0]) (ys := [1, 0]) T hS (by kernel_rfl) (by kernel_rfl) (by kernel_rfl) (by kernel_rfl) (by exact ⟨rfl, rfl, trivial⟩) rfl (by kernel_rfl) (by kernel_rfl) (by kernel_rfl) (by kernel_rfl) ?_)
    intro b161 a w162 χ163 hE h164 hN hS
    clear hN
    replace hO := hO.mv hE rfl rfl
    replace h115 := h115.mv hE rfl
    replace h145 := h145.mv hE rfl
    clear hE
    replace h164 := h164.rs0
    refine op1 (call hS (by kernel_rfl) (by kernel_rfl) hb34 (by kernel_rfl) (fun _ _ => rfl) (k34 _ _ r112.1 [1, 0] a113 c114 (some ⟨b161, 0, none⟩) 2 h115 h164) ?_)
    intro v165 a w166 χ167 hE hp hS
    replace hO := hO.mv hE rfl rfl
    replace h115 := h115.mv hE rfl
    replace h145 := h145.mv hE rfl
    replace h164 := h164.mv hE rfl
    clear hE
    obtain ⟨r168, hr⟩ : ∃ r, ref01_SameInts r112.1 [1, 0] = r := ⟨_, rfl⟩
    replace hm := hm r168 hr
    rw [hr] at hp
    clear hr
    subst hp
    refine opsP T hS 14 (sp := [39, 43, 46]) (ks := [5, 8, 51]) (bs := []) (sy' := ⟨[(5, V (.slice a143 r142.1.length c144)), (8, B r157.2), (51, B (((r168 && (!r127.2)) && r142.2) && (((r142.1.length : Nat) : Int) == 9)))], []⟩) (by kernel_rfl) ?_
    intro a hS
    rcases Bool.eq_false_or_eq_true (((r168 && (!r127.2)) && r142.2) && (((r142.1.length : Nat) : Int) == 9)) with hb | hb
    · replace hS := hS.lit (t := 51) (by kernel_rfl) hb
      replace hm := hm.1 hb
      refine opsP T hS 1 (sp := []) (ks := [5, 8, 51, 52]) (bs := []) (sy' := ⟨[(5, V (.slice a143 r142.1.length c144)), (8, B r157.2), (51, B true), (52, V (.slice a143 r142.1.length c144))], []⟩) (by kernel_rfl) ?_
      intro a hS
      obtain ⟨hq, hm⟩ := hm
      refine op1 (index (e := 4) (k := .i64) T hS (by kernel_rfl) (by kernel_rfl) (by kernel_rfl) (by kernel_rfl) h145 (by kernel_rfl) (by kernel_rfl) hq.1 hq.2 ?_)
      intro A169 a h170 hS
      clear hq
      refine op1 (load1 T hS (by kernel_rfl) (by kernel_rfl) (by kernel_rfl) h170 rfl (by kernel_rfl) ?_)
      intro v171 a hv hS
      cases hv
      refine opsP T hS 2 (sp := []) (ks := [5, 8, 56]) (bs := []) (sy' := ⟨[(5, V (.slice a143 r142.1.length c144)), (8, B r157.2), (56, B (gi r142.1 1))], []⟩) (by kernel_rfl) ?_
      intro a hS
      rcases Bool.eq_false_or_eq_true (gi r142.1 1) with hb | hb
      · replace hS := hS.lit (t := 56) (by kernel_rfl) hb
        replace hm := hm.1 hb
        refine opsP T hS 1 (sp := []) (ks := [5, 8, 56, 57]) (bs := []) (sy' := ⟨[(5, V (.slice a143 r142.1.length c144)), (8, B r157.2), (56, B true), (57, V (.slice a143 r142.1.length c144))], []⟩) (by kernel_rfl) ?_
        intro a hS
        obtain ⟨hq, hm⟩ := hm
        refine op1 (index (e := 4) (k := .i64) T hS (by kernel_rfl) (by kernel_rfl) (by kernel_rfl) (by kernel_rfl) h145 (by kernel_rfl) (by kernel_rfl) hq.1 hq.2 ?_)
        intro A172 a h173 hS
        clear hq
        refine op1 (load1 T hS (by kernel_rfl) (by kernel_rfl) (by kernel_rfl) h173 rfl (by kernel_rfl) ?_)
        intro v174 a hv hS
        cases hv
        refine opsP T hS 2 (sp := []) (ks := [5, 8, 61]) (bs := []) (sy' := ⟨[(5, V (.slice a143 r142.1.length c144)), (8, B r157.2), (61, B (gi r142.1 2))], []⟩) (by kernel_rfl) ?_
        intro a hS
        rcases Bool.eq_false_or_eq_true (gi r142.1 2) with hb | hb
        · replace hS := hS.lit (t := 61) (by kernel_rfl) hb
          replace hm := hm.1 hb
          refine opsP T hS 1 (sp := []) (ks := [8, 61, 62]) (bs := []) (sy' := ⟨[(8, B r157.2), (61, B true), (62, V (.slice a143 r142.1.length c144))], []⟩) (by kernel_rfl) ?_
          intro a hS
          obtain ⟨hq, hm⟩ := hm
          refine op1 (index (e := 4) (k := .i64) T hS (by kernel_rfl) (by kernel_rfl) (by kernel_rfl) (by kernel_rfl) h145 (by kernel_rfl) (by kernel_rfl) hq.1 hq.2 ?_)
          intro A175 a h176 hS
          clear hq
          refine op1 (load1 T hS (by kernel_rfl) (by kernel_rfl) (by kernel_rfl) h176 rfl (by kernel_rfl) ?_)
          intro v177 a hv hS
          cases hv
          refine opsP T hS 7 (sp := [67]) (ks := [71]) (bs := []) (sy' := ⟨[(71, B ((!(gi r142.1 0)) && (!r157.2)))], []⟩) (by kernel_rfl) ?_
          intro a hS
          rcases Bool.eq_false_or_eq_true ((!(gi r142.1 0)) && (!r157.2)) with hb | hb
          · replace hS := hS.lit (t := 71) (by kernel_rfl) hb
            replace hm := hm.1 hb
            refine op1 (call hS (by kernel_rfl) (by kernel_rfl) hb72 (by kernel_rfl) (fun _ _ => rfl) (k72 _ _) ?_)
            intro v178 a w179 χ180 hE hp hS
            replace hO := hO.mv hE rfl rfl
            clear hE
            obtain ⟨r181, hr⟩ : ∃ r, law32_two = r := ⟨_, rfl⟩
            replace hm := hm r181 hr
            rw [hr] at hp
            clear hr
            subst hp
            refine op1 (call hS (by kernel_rfl) (by kernel_rfl) hb47 (by kernel_rfl) (fun _ _ => rfl) (k47 _ _ r181) ?_)
            intro v182 a w183 χ184 hE hp hS
            replace hO := hO.mv hE rfl rfl
            clear hE
            obtain ⟨a186, c187, hp, h188⟩ := hp
            obtain ⟨r185, hr⟩ : ∃ r, places_Clauses r181 = r := ⟨_, rfl⟩
            replace hm := hm r185 hr
            rw [hr] at hp h188
            clear hr
            subst hp
            replace hm := hm (h188.sm (by kernel_rfl))
            refine op1 (lit (E := 3) (col := 0) (T := tI) (vals := [.int .i64 1, .int .i64 2]) (ys := [1, 2]) T hS (by kernel_rfl) (by kernel_rfl) (by kernel_rfl) (by kernel_rfl) (by exact ⟨rfl, rfl, trivial⟩) rfl (by kernel_rfl) (by kernel_rfl) (by kernel_rfl) (by kernel_rfl) ?_)
            intro b189 a w190 χ191 hE h192 hN hS
            clear hN
            replace hO := hO.mv hE rfl rfl
            replace h188 := h188.mv hE rfl
            clear hE
            replace h192 := h192.rs0
            refine op1 (lit (E := 3) (col := 0) (T := tI) (vals := [.int .i64 (-1), .int .i64 (-2)]) (ys := [(-1), (-2)]) T hS (by kernel_rfl) (by kernel_rfl) (by kernel_rfl) (by kernel_rfl) (by exact ⟨rfl, rfl, trivial⟩) rfl (by kernel_rfl) (by kernel_rfl) (by kernel_rfl) (by kernel_rfl) ?_)
            intro b193 a w194 χ195 hE h196 hN hS
            clear hN
            replace hO := hO.mv hE rfl rfl
            replace h188 := h188.mv hE rfl
            replace h192 := h192.mv hE rfl
            clear hE
            replace h196 := h196.rs0
            refine op1 (lit (E := 3) (col := 0) (T := tI) (vals := [.int .i64 3, .int .i64 4]) (ys := [3, 4]) T hS (by kernel_rfl) (by kernel_rfl) (by kernel_rfl) (by kernel_rfl) (by exact ⟨rfl, rfl, trivial⟩) rfl (by kernel_rfl) (by kernel_rfl) (by kernel_rfl) (by kernel_rfl) ?_)
            intro b197 a w198 χ199 hE h200 hN hS
            clear hN
            replace hO := hO.mv hE rfl rfl
            replace h188 := h188.mv hE rfl
            replace h192 := h192.mv hE rfl
            replace h196 := h196.mv hE rfl
            clear hE
            replace h200 := h200.rs0
            refine op1 (lit (E := 3) (col := 0) (T := tI) (vals := [.int .i64 (-3), .int .i64 (-4)]) (ys := [(-3), (-4)]) T hS (by kernel_rfl) (by kernel_rfl) (by kernel_rfl) (by kernel_rfl) (by exact ⟨rfl, rfl, trivial⟩) rfl (by kernel_rfl) (by kernel_rfl) (by kernel_rfl) (by kernel_rfl) ?_)
            intro b201 a w202 χ203 hE h204 hN hS
            clear hN
            replace hO := hO.mv hE rfl rfl
            replace h188 := h188.mv hE rfl
            replace h192 := h192.mv hE rfl
            replace h196 := h196.mv hE rfl
            replace h200 := h200.mv hE rfl
            clear hE
            replace h204 := h204.rs0
            refine op1 (lit (E := 3) (col := 0) (T := tI) (vals := [.int .i64 (-1), .int .i64 (-3)]) (ys := [(-1), (-3)]) T hS (by kernel_rfl) (by kernel_rfl) (by kernel_rfl) (by kernel_rfl) (by exact ⟨rfl, rfl, trivial⟩) rfl (by kernel_rfl) (by kernel_rfl) (by kernel_rfl) (by kernel_rfl) ?_)
            intro b205 a w206 χ207 hE h208 hN hS
            clear hN
            replace hO := hO.mv hE rfl rfl
            replace h188 := h188.mv hE rfl
            replace h192 := h192.mv hE rfl
            replace h196 := h196.mv hE rfl
            replace h200 := h200.mv hE rfl
            replace h204 := h204.mv hE rfl
            clear hE
            replace h208 := h208.rs0
            refine op1 (lit (E := 3) (col := 0) (T := tI) (vals := [.int .i64 (-2), .int .i64 (-4)]) (ys := [(-2), (-4)]) T hS (by kernel_rfl) (by kernel_rfl) (by kernel_rfl) (by kernel_rfl) (by exact ⟨rfl, rfl, trivial⟩) rfl (by kernel_rfl) (by kernel_rfl) (by kernel_rfl) (by kernel_rfl) ?_)
            intro b209 a w210 χ211 hE h212 hN hS
            clear hN
            replace hO := hO.mv hE rfl rfl
            replace h188 := h188.mv hE rfl
            replace h192 := h192.mv hE rfl
            replace h196 := h196.mv hE rfl
            replace h200 := h200.mv hE rfl
            replace h204 := h204.mv hE rfl
            replace h208 := h208.mv hE rfl
            clear hE
            replace h212 := h212.rs0
            refine op1 (lit (E := 42) (col := 0) (T := (tSlice tI)) (vals := [.slice (some ⟨b189, 0, none⟩) [1, 2].length 2, .slice (some ⟨b193, 0, none⟩) [(-1), (-2)].length 2, .slice (some ⟨b197, 0, none⟩) [3, 4].length 2, .slice (some ⟨b201, 0, none⟩) [(-3), (-4)].length 2, .slice (some ⟨b205, 0, none⟩) [(-1), (-3)].length 2, .slice (some ⟨b209, 0, none⟩) [(-2), (-4)].length 2]) (ys := [[1, 2], [(-1), (-2)], [3, 4], [(-3), (-4)], [(-1), (-3)], [(-2), (-4)]]) T hS (by kernel_rfl) (by kernel_rfl) (by kernel_rfl) (by kernel_rfl) (by exact ⟨⟨(some ⟨b189, 0, none⟩), 2, rfl, h192⟩, ⟨(some ⟨b193, 0, none⟩), 2, rfl, h196⟩, ⟨(some ⟨b197, 0, none⟩), 2, rfl, h200⟩, ⟨(some ⟨b201, 0, none⟩), 2, rfl, h204⟩, ⟨(some ⟨b205, 0, none⟩), 2, rfl, h208⟩, ⟨(some ⟨b209, 0, none⟩), 2, rfl, h212⟩, trivial⟩) rfl (by kernel_rfl) (by kernel_rfl) (by kernel_rfl) (by kernel_rfl) ?_)
            intro b213 a w214 χ215 hE h216 hN hS
            clear hN
            replace hO := hO.mv hE rfl rfl
            replace h188 := h188.mv hE rfl
            replace h192 := h192.mv hE rfl
            replace h196 := h196.mv hE rfl
            replace h200 := h200.mv hE rfl
            replace h204 := h204.mv hE rfl
            replace h208 := h208.mv hE rfl
            replace h212 := h212.mv hE rfl
            clear hE
            replace h216 := h216.rs0
            refine op1 (call hS (by kernel_rfl) (by kernel_rfl) hb31 (by kernel_rfl) (fun _ _ => rfl) (k31 _ _ r185 [[1, 2], [(-1), (-2)], [3, 4], [(-3), (-4)], [(-1), (-3)], [(-2), (-4)]] a186 c187 (some ⟨b213, 0, none⟩) 6 h188 h216) ?_)
            intro v217 a w218 χ219 hE hp hS
            replace hO := hO.mv hE rfl rfl
            replace h188 := h188.mv hE rfl
            replace h192 := h192.mv hE rfl
            replace h196 := h196.mv hE rfl
            replace h200 := h200.mv hE rfl
            replace h204 := h204.mv hE rfl
            replace h208 := h208.mv hE rfl
            replace h212 := h212.mv hE rfl
            replace h216 := h216.mv hE rfl
            clear hE
            obtain ⟨r220, hr⟩ : ∃ r, ref04_SameRows r185 [[1, 2], [(-1), (-2)], [3, 4], [(-3), (-4)], [(-1), (-3)], [(-2), (-4)]] = r := ⟨_, rfl⟩
            replace hm := hm r220 hr
            rw [hr] at hp
            clear hr
            subst hp
            refine opsP T hS 2 (sp := []) (ks := [83]) (bs := []) (sy' := ⟨[(83, B r220)], []⟩) (by kernel_rfl) ?_
            intro a hS
            rcases Bool.eq_false_or_eq_true r220 with hb | hb
            · replace hS := hS.lit (t := 83) (by kernel_rfl) hb
              replace hm := hm.1 hb
              refine op1 (lit (E := 3) (col := 0) (T := tI) (vals := [.int .i64 1, .int .i64 2, .int .i64 3]) (ys := [1, 2, 3]) T hS (by kernel_rfl) (by kernel_rfl) (by kernel_rfl) (by kernel_rfl) (by exact ⟨rfl, rfl, rfl, trivial⟩) rfl (by kernel_rfl) (by kernel_rfl) (by kernel_rfl) (by kernel_rfl) ?_)
              intro b221 a w222 χ223 hE h224 hN hS
              clear hN
              replace hO := hO.mv hE rfl rfl
              clear hE
              replace h224 := h224.rs0
              obtain ⟨hq, hm⟩ := hm
              refine op1 (call hS (by kernel_rfl) (by kernel_rfl) hb49 (by kernel_rfl) (fun _ _ => rfl) (k49 _ _ [1, 2, 3] (some ⟨b221, 0, none⟩) 3 hq h224) ?_)
              intro v225 a w226 χ227 hE hp hS
              clear hq
              replace hO := hO.mv hE rfl rfl
              replace h224 := h224.mv hE rfl
              clear hE
              obtain ⟨a229, c230, hp, h231⟩ := hp
              obtain ⟨r228, hr⟩ : ∃ r, places_Most [1, 2, 3] = r := ⟨_, rfl⟩
              replace hm := hm r228 hr
              rw [hr] at hp h231
              clear hr
              subst hp
              replace hm := hm (h231.sm (by kernel_rfl))
              refine endP T hS (sp := []) (ks := [0]) (bs := []) (sy' := ⟨[(0, B (((r228.length : Nat) : Int) == 3))], []⟩) (by kernel_rfl) ?_
              intro a hS
              refine wret ?_
              exact fin T hS hO (fun c => c) rfl (r := [.bool (((r228.length : Nat) : Int) == 3)]) (by kernel_rfl) (fun χ' hM hC => ⟨(((r228.length : Nat) : Int) == 3), hm, rfl⟩)
            · replace hS := hS.lit (t := 83) (by kernel_rfl) hb
              replace hm := hm.2 hb
              refine endP T hS (sp := []) (ks := [0]) (bs := []) (sy' := ⟨[(0, B false)], []⟩) (by kernel_rfl) ?_
              intro a hS
              refine wret ?_
              exact fin T hS hO (fun c => c) rfl (r := [.bool false]) (by kernel_rfl) (fun χ' hM hC => ⟨false, hm, rfl⟩)
          · replace hS := hS.lit (t := 71) (by kernel_rfl) hb
            replace hm := hm.2 hb
            refine endP T hS (sp := []) (ks := [0]) (bs := []) (sy' := ⟨[(0, B false)], []⟩) (by kernel_rfl) ?_
            intro a hS
            refine wret ?_
            exact fin T hS hO (fun c => c) rfl (r := [.bool false]) (by kernel_rfl) (fun χ' hM hC => ⟨false, hm, rfl⟩)
        · replace hS := hS.lit (t := 61) (by kernel_rfl) hb
          replace hm := hm.2 hb
          refine endP T hS (sp := []) (ks := [0]) (bs := []) (sy' := ⟨[(0, B false)], []⟩) (by kernel_rfl) ?_
          intro a hS
          refine wret ?_
          exact fin T hS hO (fun c => c) rfl (r := [.bool false]) (by kernel_rfl) (fun χ' hM hC => ⟨false, hm, rfl⟩)
      · replace hS := hS.lit (t := 56) (by kernel_rfl) hb
        replace hm := hm.2 hb
        refine endP T hS (sp := []) (ks := [0]) (bs := []) (sy' := ⟨[(0, B false)], []⟩) (by kernel_rfl) ?_
        intro a hS
        refine wret ?_
        exact fin T hS hO (fun c => c) rfl (r := [.bool false]) (by kernel_rfl) (fun χ' hM hC => ⟨false, hm, rfl⟩)
    · replace hS := hS.lit (t := 51) (by kernel_rfl) hb
      replace hm := hm.2 hb
      refine endP T hS (sp := []) (ks := [0]) (bs := []) (sy' := ⟨[(0, B false)], []⟩) (by kernel_rfl) ?_
      intro a hS
      refine wret ?_
      exact fin T hS hO (fun c => c) rfl (r := [.bool false]) (by kernel_rfl) (fun χ' hM hC => ⟨false, hm, rfl⟩)
  · replace hS := hS.lit (t := 34) (by kernel_rfl) hb
    replace hm := hm.2 hb
    refine endP T hS (sp := []) (ks := [0]) (bs := []) (sy' := ⟨[(0, B false)], []⟩) (by kernel_rfl) ?_
    intro a hS
    refine wret ?_
    exact fin T hS hO (fun c => c) rfl (r := [.bool false]) (by kernel_rfl) (fun χ' hM hC => ⟨false, hm, rfl⟩)
theorem C46 (k31 : S31) (k34 : S34) (k45 : S45) (k47 : S47) (k49 : S49) (k51 : S51) (k72 : S72) (v : ∀ (_ : Unit), VC46 (fun r => r = law32_awake)) : S46 := by
  intro w χ     
  refine (W46 k31 k34 k45 k47 k49 k51 k72 w χ     _ (v ())).mono ?_
  rintro _ _ _ _ ⟨r, rfl, h⟩
  exact h
/-- replevin/replevinlaw32.PlacesTells -/
theorem W12 (k31 : S31) (k46 : S46) (k47 : S47) (k48 : S48) (k49 : S49) (k50 : S50) (w0 : World) (χ0 : Nat → Nat) (s_ : Numbering_Size) (vars : List Int) (a1 : Option Addr) (c1 : Nat) (Q : Bool → Prop) (hm : VC12 s_ vars Q) (h1 : RS tI w0 χ0 a1 vars c1) :
    Ret Try.prog 12 #[.agg #[.int .i64 s_.Ops, .int .i64 s_.States], .slice a1 vars.length c1] xnone w0 χ0 (fun w χ' v => ∃ r, Q r ∧ v = .bool r) := by
  unfold VC12 at hm
  replace hm := hm (h1.sm (by kernel_rfl))
  refine enter Try.func12 rfl (vals := [.agg #[.int .i64 s_.Ops, .int .i64 s_.States], .slice a1 vars.length c1]) (by kernel_rfl) ?_
  intro ρ a hS hO hM
  replace h1 := h1.m0 hM
  clear hM
  refine regM T hS (sp := []) (ks := [1, 2]) (bs := [3]) (sy' := ⟨[(1, V (.slice a1 vars.length c1)), (2, Pt 3 0)], [(3, (23, [I s_.Ops, I s_.States]))]⟩) (by kernel_rfl) ?_
  intro ρ a w146 χ147 hS hE hr
  replace hO := hO.mv hE rfl rfl
  replace h1 := h1.mv hE rfl
  clear hE hr
  refine wseq ?_
  refine regP T hS (sp := [8, 13]) (ks := [1, 2, 17]) (bs := [3]) (sy' := ⟨[(1, V (.slice a1 vars.length c1)), (2, Pt 3 0), (17, B (((decide (s_.Ops > 10)) && (decide (s_.Ops ≤ 64))) || (decide (((vars.length : Nat) : Int) > 40))))], [(3, (23, [I s_.Ops, I s_.States]))]⟩) (by kernel_rfl) ?_
  intro a hS
  refine wcond hS (b := (((decide (s_.Ops > 10)) && (decide (s_.Ops ≤ 64))) || (decide (((vars.length : Nat) : Int) > 40)))) (by kernel_rfl) (fun hb => ?_) (fun hb => ?_)
  · replace hm := hm.1 hb
    refine regO ?_
    refine op1 (call hS (by kernel_rfl) (by kernel_rfl) hb46 (by kernel_rfl) (fun _ _ => rfl) (k46 _ _) ?_)
    intro v101 a w102 χ103 hE hp hS
    replace hO := hO.mv hE rfl rfl
    replace h1 := h1.mv hE rfl
    clear hE
    obtain ⟨r104, hr⟩ : ∃ r, law32_awake = r := ⟨_, rfl⟩
    replace hm := hm r104 hr
    rw [hr] at hp
    clear hr
    subst hp
    refine endP T hS (sp := []) (ks := [4]) (bs := []) (sy' := ⟨[(4, B r104)], []⟩) (by kernel_rfl) ?_
    intro a hS
    refine wret ?_
    exact fin T hS hO (fun c => c) rfl (r := [.bool r104]) (by kernel_rfl) (fun χ' hM hC => ⟨r104, hm, rfl⟩)
  · replace hm := hm.2 hb
    refine wskip ?_
    refine drawnS [3] mixed hS ?_
    intro w105 hS hE hD hH
    replace hO := hO.mv hE rfl rfl
    replace h1 := h1.mv hE rfl
    clear hE
    refine take T [0, 2, 4, 3, 5] [3] [1, 19, 22, 24] hS (by kernel_rfl) (by kernel_rfl) (by kernel_rfl) hH (listed' := #[true, false, true, true, true, true, false, false, false, false, false, false, false, false, false, false, false, false, false]) (fuel := 14) (sy' := ⟨[(1, V (.slice a1 vars.length c1)), (19, V (.agg #[.int .i64 s_.Ops, .int .i64 s_.States])), (22, I s_.Ops), (24, I s_.States)], [(3, (23, [I s_.Ops, I s_.States]))]⟩) (by kernel_rfl) (by rfl) ?_
    intro a hS
    refine only 1 (by kernel_rfl) (by rfl) (call hS (by kernel_rfl) (by kernel_rfl) hb47 (by kernel_rfl) (fun _ _ => rfl) (k47 _ _ s_) ?_)
    intro v106 a w107 χ108 hE hp hS
    replace hO := hO.mv hE rfl rfl
    replace hD := hD.ev hE rfl
    replace h1 := h1.mv hE rfl
    clear hE
    obtain ⟨a110, c111, hp, h112⟩ := hp
    obtain ⟨r109, hr⟩ : ∃ r, places_Clauses s_ = r := ⟨_, rfl⟩
    replace hm := hm r109 hr
    rw [hr] at hp h112
    clear hr
    subst hp
    replace hm := hm (h112.sm (by kernel_rfl))
    replace hS := hS.sel [1, 19, 22, 24, 20] [3] (sy' := ⟨[(1, V (.slice a1 vars.length c1)), (19, V (.agg #[.int .i64 s_.Ops, .int .i64 s_.States])), (22, I s_.Ops), (24, I s_.States), (20, V (.slice a110 r109.length c111))], [(3, (23, [I s_.Ops, I s_.States]))]⟩) (by kernel_rfl)
    refine andH (Hold.of hS (bks := [3]) (by kernel_rfl) hD) ?_
    intro hH
    refine only 6 (by kernel_rfl) (by rfl) (call hS (by kernel_rfl) (by kernel_rfl) hb48 (by kernel_rfl) (fun _ _ => rfl) (k48 _ _ s_.Ops s_.States) ?_)
    intro v113 a w114 χ115 hE hp hS
    replace hO := hO.mv hE rfl rfl
    replace hD := hD.ev hE rfl
    replace h1 := h1.mv hE rfl
    replace h112 := h112.mv hE rfl
    clear hE
    obtain ⟨a117, c118, hp, h119⟩ := hp
    obtain ⟨r116, hr⟩ : ∃ r, ref32_Clauses s_.Ops s_.States = r := ⟨_, rfl⟩
    replace hm := hm r116 hr
    rw [hr] at hp h119
    clear hr
    subst hp
    replace hm := hm (h119.sm (by kernel_rfl))
    replace hS := hS.sel [1, 19, 22, 24, 20, 25] [3] (sy' := ⟨[(1, V (.slice a1 vars.length c1)), (19, V (.agg #[.int .i64 s_.Ops, .int .i64 s_.States])), (22, I s_.Ops), (24, I s_.States), (20, V (.slice a110 r109.length c111)), (25, V (.slice a117 r116.length c118))], [(3, (23, [I s_.Ops, I s_.States]))]⟩) (by kernel_rfl)
    refine andH (Hold.of hS (bks := [3]) (by kernel_rfl) hD) ?_
    intro hH
    refine only 7 (by kernel_rfl) (by rfl) (call hS (by kernel_rfl) (by kernel_rfl) hb31 (by kernel_rfl) (fun _ _ => rfl) (k31 _ _ r109 r116 a110 c111 a117 c118 h112 h119) ?_)
    intro v120 a w121 χ122 hE hp hS
    replace hO := hO.mv hE rfl rfl
    replace hD := hD.ev hE rfl
    replace h1 := h1.mv hE rfl
    replace h112 := h112.mv hE rfl
    replace h119 := h119.mv hE rfl
    clear hE
    obtain ⟨r123, hr⟩ : ∃ r, ref04_SameRows r109 r116 = r := ⟨_, rfl⟩
    replace hm := hm r123 hr
    rw [hr] at hp
    clear hr
    subst hp
    replace hS := hS.sel [1, 19, 22, 24, 20, 25, 26] [3] (sy' := ⟨[(1, V (.slice a1 vars.length c1)), (19, V (.agg #[.int .i64 s_.Ops, .int .i64 s_.States])), (22, I s_.Ops), (24, I s_.States), (20, V (.slice a110 r109.length c111)), (25, V (.slice a117 r116.length c118)), (26, B r123)], [(3, (23, [I s_.Ops, I s_.States]))]⟩) (by kernel_rfl)
    refine andH (Hold.of hS (bks := [3]) (by kernel_rfl) hD) ?_
    intro hH
    refine take T [8] [3] [1, 27] hS (by kernel_rfl) (by kernel_rfl) (by kernel_rfl) hH (listed' := #[true, true, true, true, true, true, true, true, true, false, false, false, false, false, false, false, false, false, false]) (fuel := 10) (sy' := ⟨[(1, V (.slice a1 vars.length c1)), (27, B r123)], [(3, (23, [I s_.Ops, I s_.States]))]⟩) (by kernel_rfl) (by rfl) ?_
    intro a hS
    rcases Bool.eq_false_or_eq_true r123 with hb | hb
    · replace hS := hS.lit (t := 27) (by kernel_rfl) hb
      replace hm := hm.1 hb
      refine take T [9, 11] [3] [27, 28, 30] hS (by kernel_rfl) (by kernel_rfl) (by kernel_rfl) hH (listed' := #[true, true, true, true, true, true, true, true, true, true, false, true, false, false, false, false, false, false, false]) (fuel := 8) (sy' := ⟨[(27, B true), (28, V (.slice a1 vars.length c1)), (30, V (.slice a1 vars.length c1))], [(3, (23, [I s_.Ops, I s_.States]))]⟩) (by kernel_rfl) (by rfl) ?_
      intro a hS
      obtain ⟨hq, hm⟩ := hm
      refine only 10 (by kernel_rfl) (by rfl) (call hS (by kernel_rfl) (by kernel_rfl) hb49 (by kernel_rfl) (fun _ _ => rfl) (k49 _ _ vars a1 c1 hq h1) ?_)
      intro v124 a w125 χ126 hE hp hS
      clear hq
      replace hO := hO.mv hE rfl rfl
      replace hD := hD.ev hE rfl
      replace h1 := h1.mv hE rfl
      replace h112 := h112.mv hE rfl
      replace h119 := h119.mv hE rfl
      clear hE
      obtain ⟨a128, c129, hp, h130⟩ := hp
      obtain ⟨r127, hr⟩ : ∃ r, places_Most vars = r := ⟨_, rfl⟩
      replace hm := hm r127 hr
      rw [hr] at hp h130
      clear hr
      subst hp
      replace hm := hm (h130.sm (by kernel_rfl))
      replace hS := hS.sel [27, 28, 30, 29] [3] (sy' := ⟨[(27, B true), (28, V (.slice a1 vars.length c1)), (30, V (.slice a1 vars.length c1)), (29, V (.slice a128 r127.length c129))], [(3, (23, [I s_.Ops, I s_.States]))]⟩) (by kernel_rfl)
      refine andH (Hold.of hS (bks := [3]) (by kernel_rfl) hD) ?_
      intro hH
      obtain ⟨hq, hm⟩ := hm
      refine only 12 (by kernel_rfl) (by rfl) (call hS (by kernel_rfl) (by kernel_rfl) hb50 (by kernel_rfl) (fun _ _ => rfl) (k50 _ _ vars a1 c1 hq h1) ?_)
      intro v131 a w132 χ133 hE hp hS
      clear hq
      replace hO := hO.mv hE rfl rfl
      replace hD := hD.ev hE rfl
      replace h1 := h1.mv hE rfl
      replace h112 := h112.mv hE rfl
      replace h119 := h119.mv hE rfl
      replace h130 := h130.mv hE rfl
      clear hE
      obtain ⟨a135, c136, hp, h137⟩ := hp
      obtain ⟨r134, hr⟩ : ∃ r, ref32_Most vars = r := ⟨_, rfl⟩
      replace hm := hm r134 hr
      rw [hr] at hp h137
      clear hr
      subst hp
      replace hm := hm (h137.sm (by kernel_rfl))
      replace hS := hS.sel [27, 28, 30, 29, 31] [3] (sy' := ⟨[(27, B true), (28, V (.slice a1 vars.length c1)), (30, V (.slice a1 vars.length c1)), (29, V (.slice a128 r127.length c129)), (31, V (.slice a135 r134.length c136))], [(3, (23, [I s_.Ops, I s_.States]))]⟩) (by kernel_rfl)
      refine andH (Hold.of hS (bks := [3]) (by kernel_rfl) hD) ?_
      intro hH
      refine only 13 (by kernel_rfl) (by rfl) (call hS (by kernel_rfl) (by kernel_rfl) hb31 (by kernel_rfl) (fun _ _ => rfl) (k31 _ _ r127 r134 a128 c129 a135 c136 h130 h137) ?_)
      intro v138 a w139 χ140 hE hp hS
      replace hO := hO.mv hE rfl rfl
      replace hD := hD.ev hE rfl
      replace h1 := h1.mv hE rfl
      replace h112 := h112.mv hE rfl
      replace h119 := h119.mv hE rfl
      replace h130 := h130.mv hE rfl
      replace h137 := h137.mv hE rfl
      clear hE
      obtain ⟨r141, hr⟩ : ∃ r, ref04_SameRows r127 r134 = r := ⟨_, rfl⟩
      replace hm := hm r141 hr
      rw [hr] at hp
      clear hr
      subst hp
      replace hS := hS.sel [27, 28, 30, 29, 31, 32] [3] (sy' := ⟨[(27, B true), (28, V (.slice a1 vars.length c1)), (30, V (.slice a1 vars.length c1)), (29, V (.slice a128 r127.length c129)), (31, V (.slice a135 r134.length c136)), (32, B r141)], [(3, (23, [I s_.Ops, I s_.States]))]⟩) (by kernel_rfl)
      refine andH (Hold.of hS (bks := [3]) (by kernel_rfl) hD) ?_
      intro hH
      refine take T [14, 15] [3] [34] hS (by kernel_rfl) (by kernel_rfl) (by kernel_rfl) hH (listed' := #[true, true, true, true, true, true, true, true, true, true, true, true, true, true, true, true, false, false, false]) (fuel := 3) (sy' := ⟨[(34, B r141)], [(3, (23, [I s_.Ops, I s_.States]))]⟩) (by kernel_rfl) (by rfl) ?_
      intro a hS
      rcases Bool.eq_false_or_eq_true r141 with hb | hb
      · replace hS := hS.lit (t := 34) (by kernel_rfl) hb
        replace hm := hm.1 hb
        refine only 16 (by kernel_rfl) (by rfl) (call hS (by kernel_rfl) (by kernel_rfl) hb46 (by kernel_rfl) (fun _ _ => rfl) (k46 _ _) ?_)
        intro v142 a w143 χ144 hE hp hS
        replace hO := hO.mv hE rfl rfl
        replace hD := hD.ev hE rfl
        replace h1 := h1.mv hE rfl
        replace h112 := h112.mv hE rfl
        replace h119 := h119.mv hE rfl
        replace h130 := h130.mv hE rfl
        replace h137 := h137.mv hE rfl
        clear hE
        obtain ⟨r145, hr⟩ : ∃ r, law32_awake = r := ⟨_, rfl⟩
        replace hm := hm r145 hr
        rw [hr] at hp
        clear hr
        subst hp
        replace hS := hS.sel [34, 35] [3] (sy' := ⟨[(34, B true), (35, B r145)], [(3, (23, [I s_.Ops, I s_.States]))]⟩) (by kernel_rfl)
        refine andH (Hold.of hS (bks := [3]) (by kernel_rfl) hD) ?_
        intro hH
        refine take T [17, 18] [3] [4] hS (by kernel_rfl) (by kernel_rfl) (by kernel_rfl) hH (listed' := #[true, true, true, true, true, true, true, true, true, true, true, true, true, true, true, true, true, true, true]) (fuel := 0) (sy' := ⟨[(4, B r145)], [(3, (23, [I s_.Ops, I s_.States]))]⟩) (by kernel_rfl) (by rfl) ?_
        intro a hS
        refine drawnDone (by kernel_rfl) ?_
        clear hD hH
        replace hS := hS.sel [4] [] (sy' := ⟨[(4, B r145)], []⟩) (by kernel_rfl)
        refine wret ?_
        exact fin T hS hO (fun c => c) rfl (r := [.bool r145]) (by kernel_rfl) (fun χ' hM hC => ⟨r145, hm, rfl⟩)
      · replace hS := hS.lit (t := 34) (by kernel_rfl) hb
        replace hm := hm.2 hb
        refine take T [16, 17, 18] [3] [4] hS (by kernel_rfl) (by kernel_rfl) (by kernel_rfl) hH (listed' := #[true, true, true, true, true, true, true, true, true, true, true, true, true, true, true, true, true, true, true]) (fuel := 0) (sy' := ⟨[(4, B false)], [(3, (23, [I s_.Ops, I s_.States]))]⟩) (by kernel_rfl) (by rfl) ?_
        intro a hS
        refine drawnDone (by kernel_rfl) ?_
        clear hD hH
        replace hS := hS.sel [4] [] (sy' := ⟨[(4, B false)], []⟩) (by kernel_rfl)
        refine wret ?_
        exact fin T hS hO (fun c => c) rfl (r := [.bool false]) (by kernel_rfl) (fun χ' hM hC => ⟨false, hm, rfl⟩)
    · replace hS := hS.lit (t := 27) (by kernel_rfl) hb
      replace hm := hm.2 hb
      refine take T [9, 11, 10, 12, 13, 14, 15, 16, 17, 18] [3] [4] hS (by kernel_rfl) (by kernel_rfl) (by kernel_rfl) hH (listed' := #[true, true, true, true, true, true, true, true, true, true, true, true, true, true, true, true, true, true, true]) (fuel := 0) (sy' := ⟨[(4, B false)], [(3, (23, [I s_.Ops, I s_.States]))]⟩) (by kernel_rfl) (by rfl) ?_
      intro a hS
      refine drawnDone (by kernel_rfl) ?_
      clear hD hH
      replace hS := hS.sel [4] [] (sy' := ⟨[(4, B false)], []⟩) (by kernel_rfl)
      refine wret ?_
      exact fin T hS hO (fun c => c) rfl (r := [.bool false]) (by kernel_rfl) (fun χ' hM hC => ⟨false, hm, rfl⟩)
/-- replevin/replevinlaw32.PlacesReads -/
theorem W13 (k34 : S34) (k35 : S35) (k45 : S45) (k46 : S46) (k51 : S51) (k52 : S52) (k53 : S53) (w0 : World) (χ0 : Nat → Nat) (P : Numbering_Size) (O : List Bool) (S : List Int) (a1 : Option Addr) (c1 : Nat) (a2 : Option Addr) (c2 : Nat) (Q : Bool → Prop) (hm : VC13 P O S Q) (h1 : RS tBool w0 χ0 a1 O c1) (h2 : RS tI w0 χ0 a2 S c2) :
    Ret Try.prog 13 #[.agg #[.int .i64 P.Ops, .int .i64 P.States], .slice a1 O.length c1, .slice a2 S.length c2] xnone w0 χ0 (fun w χ' v => ∃ r, Q r ∧ v = .bool r) := by
  unfold VC13 at hm
  replace hm := hm (h1.sm (by kernel_rfl))
  replace hm := hm (h2.sm (by kernel_rfl))
  refine enter Try.func13 rfl (vals := [.agg #[.int .i64 P.Ops, .int .i64 P.States], .slice a1 O.length c1, .slice a2 S.length c2]) (by kernel_rfl) ?_
  intro ρ a hS hO hM
  replace h1 := h1.m0 hM
  replace h2 := h2.m0 hM
  clear hM
  refine regM T hS (sp := []) (ks := [1, 2, 3]) (bs := [4]) (sy' := ⟨[(1, V (.slice a1 O.length c1)), (2, V (.slice a2 S.length c2)), (3, Pt 4 0)], [(4, (23, [I P.Ops, I P.States]))]⟩) (by kernel_rfl) ?_
  intro ρ a w145 χ146 hS hE hr
  replace hO := hO.mv hE rfl rfl
  replace h1 := h1.mv hE rfl
  replace h2 := h2.mv hE rfl
  clear hE hr
  refine wseq ?_
  refine regP T hS (sp := [18]) (ks := [1, 2, 3, 22]) (bs := [4]) (sy' := ⟨[(1, V (.slice a1 O.length c1)), (2, V (.slice a2 S.length c2)), (3, Pt 4 0), (22, B ((decide (((O.length : Nat) : Int) > 1000)) || (decide (((S.length : Nat) : Int) > 100))))], [(4, (23, [I P.Ops, I P.States]))]⟩) (by kernel_rfl) ?_
  intro a hS
  refine wcond hS (b := ((decide (((O.length : Nat) : Int) > 1000)) || (decide (((S.length : Nat) : Int) > 100)))) (by kernel_rfl) (fun hb => ?_) (fun hb => ?_)
  · replace hm := hm.1 hb
    refine regO ?_
    refine op1 (call hS (by kernel_rfl) (by kernel_rfl) hb46 (by kernel_rfl) (fun _ _ => rfl) (k46 _ _) ?_)
    intro v101 a w102 χ103 hE hp hS
    replace hO := hO.mv hE rfl rfl
    replace h1 := h1.mv hE rfl
    replace h2 := h2.mv hE rfl
    clear hE
    obtain ⟨r104, hr⟩ : ∃ r, law32_awake = r := ⟨_, rfl⟩
    replace hm := hm r104 hr
    rw [hr] at hp
    clear hr
    subst hp
    refine endP T hS (sp := []) (ks := [6]) (bs := []) (sy' := ⟨[(6, B r104)], []⟩) (by kernel_rfl) ?_
    intro a hS
    refine wret ?_
    exact fin T hS hO (fun c => c) rfl (r := [.bool r104]) (by kernel_rfl) (fun χ' hM hC => ⟨r104, hm, rfl⟩)
  · replace hm := hm.2 hb
    refine wskip ?_
    refine regO ?_
    refine opsP T hS 2 (sp := []) (ks := [1, 2, 3, 25, 26]) (bs := [4]) (sy' := ⟨[(1, V (.slice a1 O.length c1)), (2, V (.slice a2 S.length c2)), (3, Pt 4 0), (25, V (.agg #[.int .i64 P.Ops, .int .i64 P.States])), (26, V (.slice a1 O.length c1))], [(4, (23, [I P.Ops, I P.States]))]⟩) (by kernel_rfl) ?_
    intro a hS
    refine op1 (call hS (by kernel_rfl) (by kernel_rfl) hb51 (by kernel_rfl) (fun _ _ => rfl) (k51 _ _ P O a1 c1 h1) ?_)
    intro v105 a w106 χ107 hE hp hS
    replace hO := hO.mv hE rfl rfl
    replace h1 := h1.mv hE rfl
    replace h2 := h2.mv hE rfl
    clear hE
    obtain ⟨a109, c110, hp, h111⟩ := hp
    obtain ⟨r108, hr⟩ : ∃ r, places_Order P O = r := ⟨_, rfl⟩
    replace hm := hm r108 hr
    rw [hr] at hp h111
    clear hr
    subst hp
    replace hm := hm (h111.sm (by kernel_rfl))
    refine endP T hS (sp := []) (ks := [1, 2, 3, 7, 8]) (bs := [4]) (sy' := ⟨[(1, V (.slice a1 O.length c1)), (2, V (.slice a2 S.length c2)), (3, Pt 4 0), (7, V (.slice a109 r108.1.length c110)), (8, B r108.2)], [(4, (23, [I P.Ops, I P.States]))]⟩) (by kernel_rfl) ?_
    intro a hS
    refine regO ?_
    refine opsP T hS 5 (sp := []) (ks := [2, 3, 7, 8, 32, 34, 35]) (bs := [4]) (sy' := ⟨[(2, V (.slice a2 S.length c2)), (3, Pt 4 0), (7, V (.slice a109 r108.1.length c110)), (8, B r108.2), (32, I P.Ops), (34, I P.States), (35, V (.slice a1 O.length c1))], [(4, (23, [I P.Ops, I P.States]))]⟩) (by kernel_rfl) ?_
    intro a hS
    refine op1 (call hS (by kernel_rfl) (by kernel_rfl) hb52 (by kernel_rfl) (fun _ _ => rfl) (k52 _ _ P.Ops P.States O a1 c1 h1) ?_)
    intro v112 a w113 χ114 hE hp hS
    replace hO := hO.mv hE rfl rfl
    replace h1 := h1.mv hE rfl
    replace h2 := h2.mv hE rfl
    replace h111 := h111.mv hE rfl
    clear hE
    obtain ⟨a116, c117, hp, h118⟩ := hp
    obtain ⟨r115, hr⟩ : ∃ r, ref32_Order P.Ops P.States O = r := ⟨_, rfl⟩
    replace hm := hm r115 hr
    rw [hr] at hp h118
    clear hr
    subst hp
    replace hm := hm (h118.sm (by kernel_rfl))
    refine endP T hS (sp := []) (ks := [2, 3, 7, 8, 9, 10]) (bs := [4]) (sy' := ⟨[(2, V (.slice a2 S.length c2)), (3, Pt 4 0), (7, V (.slice a109 r108.1.length c110)), (8, B r108.2), (9, V (.slice a116 r115.1.length c117)), (10, B r115.2)], [(4, (23, [I P.Ops, I P.States]))]⟩) (by kernel_rfl) ?_
    intro a hS
    refine regO ?_
    refine opsP T hS 2 (sp := []) (ks := [2, 3, 7, 8, 9, 10, 40, 41]) (bs := [4]) (sy' := ⟨[(2, V (.slice a2 S.length c2)), (3, Pt 4 0), (7, V (.slice a109 r108.1.length c110)), (8, B r108.2), (9, V (.slice a116 r115.1.length c117)), (10, B r115.2), (40, V (.agg #[.int .i64 P.Ops, .int .i64 P.States])), (41, V (.slice a2 S.length c2))], [(4, (23, [I P.Ops, I P.States]))]⟩) (by kernel_rfl) ?_
    intro a hS
    refine op1 (call hS (by kernel_rfl) (by kernel_rfl) hb45 (by kernel_rfl) (fun _ _ => rfl) (k45 _ _ P S a2 c2 h2) ?_)
    intro v119 a w120 χ121 hE hp hS
    replace hO := hO.mv hE rfl rfl
    replace h2 := h2.mv hE rfl
    replace h111 := h111.mv hE rfl
    replace h118 := h118.mv hE rfl
    clear hE
    obtain ⟨a123, c124, hp, h125⟩ := hp
    obtain ⟨r122, hr⟩ : ∃ r, places_Truths P S = r := ⟨_, rfl⟩
    replace hm := hm r122 hr
    rw [hr] at hp h125
    clear hr
    subst hp
    replace hm := hm (h125.sm (by kernel_rfl))
    refine endP T hS (sp := []) (ks := [2, 3, 7, 8, 9, 10, 11, 12]) (bs := [4]) (sy' := ⟨[(2, V (.slice a2 S.length c2)), (3, Pt 4 0), (7, V (.slice a109 r108.1.length c110)), (8, B r108.2), (9, V (.slice a116 r115.1.length c117)), (10, B r115.2), (11, V (.slice a123 r122.1.length c124)), (12, B r122.2)], [(4, (23, [I P.Ops, I P.States]))]⟩) (by kernel_rfl) ?_
    intro a hS
    refine regO ?_
    refine opsP T hS 5 (sp := []) (ks := [7, 8, 9, 10, 11, 12, 47, 49, 50]) (bs := []) (sy' := ⟨[(7, V (.slice a109 r108.1.length c110)), (8, B r108.2), (9, V (.slice a116 r115.1.length c117)), (10, B r115.2), (11, V (.slice a123 r122.1.length c124)), (12, B r122.2), (47, I P.Ops), (49, I P.States), (50, V (.slice a2 S.length c2))], []⟩) (by kernel_rfl) ?_
    intro a hS
    refine op1 (call hS (by kernel_rfl) (by kernel_rfl) hb53 (by kernel_rfl) (fun _ _ => rfl) (k53 _ _ P.Ops P.States S a2 c2 h2) ?_)
    intro v126 a w127 χ128 hE hp hS
    replace hO := hO.mv hE rfl rfl
    replace h2 := h2.mv hE rfl
    replace h111 := h111.mv hE rfl
    replace h118 := h118.mv hE rfl
    replace h125 := h125.mv hE rfl
    clear hE
    obtain ⟨a130, c131, hp, h132⟩ := hp
    obtain ⟨r129, hr⟩ : ∃ r, ref32_Truths P.Ops P.States S = r := ⟨_, rfl⟩
    replace hm := hm r129 hr
    rw [hr] at hp h132
    clear hr
    subst hp
    replace hm := hm (h132.sm (by kernel_rfl))
    refine endP T hS (sp := []) (ks := [7, 8, 9, 10, 11, 12, 13, 14]) (bs := []) (sy' := ⟨[(7, V (.slice a109 r108.1.length c110)), (8, B r108.2), (9, V (.slice a116 r115.1.length c117)), (10, B r115.2), (11, V (.slice a123 r122.1.length c124)), (12, B r122.2), (13, V (.slice a130 r129.1.length c131)), (14, B r129.2)], []⟩) (by kernel_rfl) ?_
    intro a hS
    refine regO ?_
    refine opsP T hS 2 (sp := []) (ks := [8, 10, 11, 12, 13, 14, 54, 55]) (bs := []) (sy' := ⟨[(8, B r108.2), (10, B r115.2), (11, V (.slice a123 r122.1.length c124)), (12, B r122.2), (13, V (.slice a130 r129.1.length c131)), (14, B r129.2), (54, V (.slice a109 r108.1.length c110)), (55, V (.slice a116 r115.1.length c117))], []⟩) (by kernel_rfl) ?_
    intro a hS
    refine op1 (call hS (by kernel_rfl) (by kernel_rfl) hb34 (by kernel_rfl) (fun _ _ => rfl) (k34 _ _ r108.1 r115.1 a109 c110 a116 c117 h111 h118) ?_)
    intro v133 a w134 χ135 hE hp hS
    replace hO := hO.mv hE rfl rfl
    replace h111 := h111.mv hE rfl
    replace h118 := h118.mv hE rfl
    replace h125 := h125.mv hE rfl
    replace h132 := h132.mv hE rfl
    clear hE
    obtain ⟨r136, hr⟩ : ∃ r, ref01_SameInts r108.1 r115.1 = r := ⟨_, rfl⟩
    replace hm := hm r136 hr
    rw [hr] at hp
    clear hr
    subst hp
    refine opsP T hS 6 (sp := [57]) (ks := [11, 12, 13, 14, 62]) (bs := []) (sy' := ⟨[(11, V (.slice a123 r122.1.length c124)), (12, B r122.2), (13, V (.slice a130 r129.1.length c131)), (14, B r129.2), (62, B (r136 && (r108.2 == r115.2)))], []⟩) (by kernel_rfl) ?_
    intro a hS
    rcases Bool.eq_false_or_eq_true (r136 && (r108.2 == r115.2)) with hb | hb
    · replace hS := hS.lit (t := 62) (by kernel_rfl) hb
      replace hm := hm.1 hb
      refine opsP T hS 2 (sp := []) (ks := [12, 14, 62, 63, 64]) (bs := []) (sy' := ⟨[(12, B r122.2), (14, B r129.2), (62, B true), (63, V (.slice a123 r122.1.length c124)), (64, V (.slice a130 r129.1.length c131))], []⟩) (by kernel_rfl) ?_
      intro a hS
      refine op1 (call hS (by kernel_rfl) (by kernel_rfl) hb35 (by kernel_rfl) (fun _ _ => rfl) (k35 _ _ r122.1 r129.1 a123 c124 a130 c131 h125 h132) ?_)
      intro v137 a w138 χ139 hE hp hS
      replace hO := hO.mv hE rfl rfl
      replace h125 := h125.mv hE rfl
      replace h132 := h132.mv hE rfl
      clear hE
      obtain ⟨r140, hr⟩ : ∃ r, ref03_SameBools r122.1 r129.1 = r := ⟨_, rfl⟩
      replace hm := hm r140 hr
      rw [hr] at hp
      clear hr
      subst hp
      refine opsP T hS 7 (sp := [67]) (ks := [72]) (bs := []) (sy' := ⟨[(72, B (r140 && (r122.2 == r129.2)))], []⟩) (by kernel_rfl) ?_
      intro a hS
      rcases Bool.eq_false_or_eq_true (r140 && (r122.2 == r129.2)) with hb | hb
      · replace hS := hS.lit (t := 72) (by kernel_rfl) hb
        replace hm := hm.1 hb
        refine op1 (call hS (by kernel_rfl) (by kernel_rfl) hb46 (by kernel_rfl) (fun _ _ => rfl) (k46 _ _) ?_)
        intro v141 a w142 χ143 hE hp hS
        replace hO := hO.mv hE rfl rfl
        clear hE
        obtain ⟨r144, hr⟩ : ∃ r, law32_awake = r := ⟨_, rfl⟩
        replace hm := hm r144 hr
        rw [hr] at hp
        clear hr
        subst hp
        refine endP T hS (sp := []) (ks := [6]) (bs := []) (sy' := ⟨[(6, B r144)], []⟩) (by kernel_rfl) ?_
        intro a hS
        refine wret ?_
        exact fin T hS hO (fun c => c) rfl (r := [.bool r144]) (by kernel_rfl) (fun χ' hM hC => ⟨r144, hm, rfl⟩)
      · replace hS := hS.lit (t := 72) (by kernel_rfl) hb
        replace hm := hm.2 hb
        refine endP T hS (sp := []) (ks := [6]) (bs := []) (sy' := ⟨[(6, B false)], []⟩) (by kernel_rfl) ?_
        intro a hS
        refine wret ?_
        exact fin T hS hO (fun c => c) rfl (r := [.bool false]) (by kernel_rfl) (fun χ' hM hC => ⟨false, hm, rfl⟩)
    · replace hS := hS.lit (t := 62) (by kernel_rfl) hb
      replace hm := hm.2 hb
      refine endP T hS (sp := []) (ks := [6]) (bs := []) (sy' := ⟨[(6, B false)], []⟩) (by kernel_rfl) ?_
      intro a hS
      refine wret ?_
      exact fin T hS hO (fun c => c) rfl (r := [.bool false]) (by kernel_rfl) (fun χ' hM hC => ⟨false, hm, rfl⟩)
/-- replevin/replevinlaw32.PlacesOrders -/
theorem W14 (k21 : S21) (k23 : S23) (k36 : S36) (k46 : S46) (k47 : S47) (k51 : S51) (w0 : World) (χ0 : Nat → Nat) (s_ : Numbering_Size) (m_ : List Bool) (a1 : Option Addr) (c1 : Nat) (Q : Bool → Prop) (hm : VC14 s_ m_ Q) (h1 : RS tBool w0 χ0 a1 m_ c1) :
    Ret Try.prog 14 #[.agg #[.int .i64 s_.Ops, .int .i64 s_.States], .slice a1 m_.length c1] xnone w0 χ0 (fun w χ' v => ∃ r, Q r ∧ v = .bool r) := by
  unfold VC14 at hm
  replace hm := hm (h1.sm (by kernel_rfl))
  refine enter Try.func14 rfl (vals := [.agg #[.int .i64 s_.Ops, .int .i64 s_.States], .slice a1 m_.length c1]) (by kernel_rfl) ?_
  intro ρ a hS hO hM
  replace h1 := h1.m0 hM
  clear hM
  refine regM T hS (sp := []) (ks := [1, 2]) (bs := [3]) (sy' := ⟨[(1, V (.slice a1 m_.length c1)), (2, Pt 3 0)], [(3, (23, [I s_.Ops, I s_.States]))]⟩) (by kernel_rfl) ?_
  intro ρ a w139 χ140 hS hE hr
  replace hO := hO.mv hE rfl rfl
  replace h1 := h1.mv hE rfl
  clear hE hr
  refine wseq ?_
  refine wcut (fun a w => ∃ (ρ : Nat → Nat) (χ : Nat → Nat) (x_102 : Bool), VC14_J1 s_ m_ Q x_102 ∧ St Try.f14.ntmps ⟨[(1, V (.slice a1 m_.length c1)), (2, Pt 3 0), (22, B x_102)], [(3, (23, [I s_.Ops, I s_.States]))]⟩ ρ a w χ ∧ Old w0 χ0 w χ ∧ RS tBool w χ a1 m_ c1) ?_ ?_
  · refine region ?_
    refine opsP T hS 4 (sp := []) (ks := [1, 2, 11]) (bs := [3]) (sy' := ⟨[(1, V (.slice a1 m_.length c1)), (2, Pt 3 0), (11, B (decide (s_.Ops > 10)))], [(3, (23, [I s_.Ops, I s_.States]))]⟩) (by kernel_rfl) ?_
    intro a hS
    rcases Bool.eq_false_or_eq_true (decide (s_.Ops > 10)) with hb | hb
    · replace hS := hS.lit (t := 11) (by kernel_rfl) hb
      replace hm := hm.1 hb
      refine endP T hS (sp := []) (ks := [1, 2, 22]) (bs := [3]) (sy' := ⟨[(1, V (.slice a1 m_.length c1)), (2, Pt 3 0), (22, B true)], [(3, (23, [I s_.Ops, I s_.States]))]⟩) (by kernel_rfl) ?_
      intro a hS
      exact ⟨ρ, _, true, hm, hS.sel [1, 2, 22] [3] (by kernel_rfl), hO, h1⟩
    · replace hS := hS.lit (t := 11) (by kernel_rfl) hb
      replace hm := hm.2 hb
      refine opsP T hS 1 (sp := []) (ks := [1, 2, 11, 12]) (bs := [3]) (sy' := ⟨[(1, V (.slice a1 m_.length c1)), (2, Pt 3 0), (11, B false), (12, V (.agg #[.int .i64 s_.Ops, .int .i64 s_.States]))], [(3, (23, [I s_.Ops, I s_.States]))]⟩) (by kernel_rfl) ?_
      intro a hS
      refine op1 (call hS (by kernel_rfl) (by kernel_rfl) hb21 (by kernel_rfl) (fun _ _ => rfl) (k21 _ _ s_) ?_)
      intro v129 a w130 χ131 hE hp hS
      replace hO := hO.mv hE rfl rfl
      replace h1 := h1.mv hE rfl
      clear hE
      obtain ⟨r132, hr⟩ : ∃ r, numbering_Check s_ = r := ⟨_, rfl⟩
      replace hm := hm r132 hr
      rw [hr] at hp
      clear hr
      subst hp
      refine opsP T hS 3 (sp := []) (ks := [1, 2, 16]) (bs := [3]) (sy' := ⟨[(1, V (.slice a1 m_.length c1)), (2, Pt 3 0), (16, B (r132 != 0))], [(3, (23, [I s_.Ops, I s_.States]))]⟩) (by kernel_rfl) ?_
      intro a hS
      rcases Bool.eq_false_or_eq_true (r132 != 0) with hb | hb
      · replace hS := hS.lit (t := 16) (by kernel_rfl) hb
        replace hm := hm.1 hb
        refine endP T hS (sp := []) (ks := [1, 2, 22]) (bs := [3]) (sy' := ⟨[(1, V (.slice a1 m_.length c1)), (2, Pt 3 0), (22, B true)], [(3, (23, [I s_.Ops, I s_.States]))]⟩) (by kernel_rfl) ?_
        intro a hS
        exact ⟨ρ, _, true, hm, hS.sel [1, 2, 22] [3] (by kernel_rfl), hO, h1⟩
      · replace hS := hS.lit (t := 16) (by kernel_rfl) hb
        replace hm := hm.2 hb
        refine opsP T hS 3 (sp := []) (ks := [1, 2, 16, 18, 19]) (bs := [3]) (sy' := ⟨[(1, V (.slice a1 m_.length c1)), (2, Pt 3 0), (16, B false), (18, I ((m_.length : Nat) : Int)), (19, V (.agg #[.int .i64 s_.Ops, .int .i64 s_.States]))], [(3, (23, [I s_.Ops, I s_.States]))]⟩) (by kernel_rfl) ?_
        intro a hS
        refine op1 (call hS (by kernel_rfl) (by kernel_rfl) hb23 (by kernel_rfl) (fun _ _ => rfl) (k23 _ _ s_) ?_)
        intro v133 a w134 χ135 hE hp hS
        replace hO := hO.mv hE rfl rfl
        replace h1 := h1.mv hE rfl
        clear hE
        obtain ⟨r136, hr⟩ : ∃ r, numbering_Vars s_ = r := ⟨_, rfl⟩
        replace hm := hm r136 hr
        rw [hr] at hp
        clear hr
        subst hp
        refine endP T hS (sp := []) (ks := [1, 2, 22]) (bs := [3]) (sy' := ⟨[(1, V (.slice a1 m_.length c1)), (2, Pt 3 0), (22, B (((m_.length : Nat) : Int) != r136))], [(3, (23, [I s_.Ops, I s_.States]))]⟩) (by kernel_rfl) ?_
        intro a hS
        exact ⟨ρ, _, (((m_.length : Nat) : Int) != r136), hm, hS.sel [1, 2, 22] [3] (by kernel_rfl), hO, h1⟩
  · rintro a w138 ⟨ρ, χ137, x_102, hm, hS, hO, h101⟩
    unfold VC14_J1 at hm
    refine wcond hS (b := x_102) (by kernel_rfl) (fun hb => ?_) (fun hb => ?_)
    · replace hm := hm.1 hb
      refine regO ?_
      refine op1 (call hS (by kernel_rfl) (by kernel_rfl) hb46 (by kernel_rfl) (fun _ _ => rfl) (k46 _ _) ?_)
      intro v103 a w104 χ105 hE hp hS
      replace hO := hO.mv hE rfl rfl
      replace h101 := h101.mv hE rfl
      clear hE
      obtain ⟨r106, hr⟩ : ∃ r, law32_awake = r := ⟨_, rfl⟩
      replace hm := hm r106 hr
      rw [hr] at hp
      clear hr
      subst hp
      refine endP T hS (sp := []) (ks := [4]) (bs := []) (sy' := ⟨[(4, B r106)], []⟩) (by kernel_rfl) ?_
      intro a hS
      refine wret ?_
      exact fin T hS hO (fun c => c) rfl (r := [.bool r106]) (by kernel_rfl) (fun χ' hM hC => ⟨r106, hm, rfl⟩)
    · replace hm := hm.2 hb
      refine wskip ?_
      refine regO ?_
      refine opsP T hS 2 (sp := []) (ks := [1, 2, 25, 26]) (bs := [3]) (sy' := ⟨[(1, V (.slice a1 m_.length c1)), (2, Pt 3 0), (25, V (.agg #[.int .i64 s_.Ops, .int .i64 s_.States])), (26, V (.slice a1 m_.length c1))], [(3, (23, [I s_.Ops, I s_.States]))]⟩) (by kernel_rfl) ?_
      intro a hS
      refine op1 (call hS (by kernel_rfl) (by kernel_rfl) hb51 (by kernel_rfl) (fun _ _ => rfl) (k51 _ _ s_ m_ a1 c1 h101) ?_)
      intro v107 a w108 χ109 hE hp hS
      replace hO := hO.mv hE rfl rfl
      replace h101 := h101.mv hE rfl
      clear hE
      obtain ⟨a111, c112, hp, h113⟩ := hp
      obtain ⟨r110, hr⟩ : ∃ r, places_Order s_ m_ = r := ⟨_, rfl⟩
      replace hm := hm r110 hr
      rw [hr] at hp h113
      clear hr
      subst hp
      replace hm := hm (h113.sm (by kernel_rfl))
      refine endP T hS (sp := []) (ks := [1, 2, 5, 6]) (bs := [3]) (sy' := ⟨[(1, V (.slice a1 m_.length c1)), (2, Pt 3 0), (5, V (.slice a111 r110.1.length c112)), (6, B r110.2)], [(3, (23, [I s_.Ops, I s_.States]))]⟩) (by kernel_rfl) ?_
      intro a hS
      refine regO ?_
      refine opsP T hS 1 (sp := []) (ks := [1, 2, 5, 6, 30]) (bs := [3]) (sy' := ⟨[(1, V (.slice a1 m_.length c1)), (2, Pt 3 0), (5, V (.slice a111 r110.1.length c112)), (6, B r110.2), (30, V (.agg #[.int .i64 s_.Ops, .int .i64 s_.States]))], [(3, (23, [I s_.Ops, I s_.States]))]⟩) (by kernel_rfl) ?_
      intro a hS
      refine op1 (call hS (by kernel_rfl) (by kernel_rfl) hb47 (by kernel_rfl) (fun _ _ => rfl) (k47 _ _ s_) ?_)
      intro v114 a w115 χ116 hE hp hS
      replace hO := hO.mv hE rfl rfl
      replace h101 := h101.mv hE rfl
      replace h113 := h113.mv hE rfl
      clear hE
      obtain ⟨a118, c119, hp, h120⟩ := hp
      obtain ⟨r117, hr⟩ : ∃ r, places_Clauses s_ = r := ⟨_, rfl⟩
      replace hm := hm r117 hr
      rw [hr] at hp h120
      clear hr
      subst hp
      replace hm := hm (h120.sm (by kernel_rfl))
      refine opsP T hS 2 (sp := []) (ks := [2, 5, 6, 32, 33]) (bs := [3]) (sy' := ⟨[(2, Pt 3 0), (5, V (.slice a111 r110.1.length c112)), (6, B r110.2), (32, V (.agg #[.int .i64 0, .slice a118 r117.length c119])), (33, V (.slice a1 m_.length c1))], [(3, (23, [I s_.Ops, I s_.States]))]⟩) (by kernel_rfl) ?_
      intro a hS
      refine op1 (call hS (by kernel_rfl) (by kernel_rfl) hb36 (by kernel_rfl) (fun _ _ => rfl) (k36 _ _ (⟨0, r117⟩ : Api_Formula) m_ a118 c119 a1 c1 h120 h101) ?_)
      intro v121 a w122 χ123 hE hp hS
      replace hO := hO.mv hE rfl rfl
      replace h101 := h101.mv hE rfl
      replace h113 := h113.mv hE rfl
      replace h120 := h120.mv hE rfl
      clear hE
      obtain ⟨r124, hr⟩ : ∃ r, ref04_First (⟨0, r117⟩ : Api_Formula) m_ = r := ⟨_, rfl⟩
      replace hm := hm r124 hr
      rw [hr] at hp
      clear hr
      subst hp
      refine endP T hS (sp := []) (ks := [2, 5, 6, 7]) (bs := [3]) (sy' := ⟨[(2, Pt 3 0), (5, V (.slice a111 r110.1.length c112)), (6, B r110.2), (7, B (decide (r124 < 0)))], [(3, (23, [I s_.Ops, I s_.States]))]⟩) (by kernel_rfl) ?_
      intro a hS
      refine regO ?_
      refine opsP T hS 23 (sp := [39, 41, 48, 51]) (ks := [58]) (bs := []) (sy' := ⟨[(58, B ((r110.2 == (decide (r124 < 0))) && ((r110.2 && (((r110.1.length : Nat) : Int) == s_.Ops)) || ((!r110.2) && (((r110.1.length : Nat) : Int) == 0)))))], []⟩) (by kernel_rfl) ?_
      intro a hS
      rcases Bool.eq_false_or_eq_true ((r110.2 == (decide (r124 < 0))) && ((r110.2 && (((r110.1.length : Nat) : Int) == s_.Ops)) || ((!r110.2) && (((r110.1.length : Nat) : Int) == 0)))) with hb | hb
      · replace hS := hS.lit (t := 58) (by kernel_rfl) hb
        replace hm := hm.1 hb
        refine op1 (call hS (by kernel_rfl) (by kernel_rfl) hb46 (by kernel_rfl) (fun _ _ => rfl) (k46 _ _) ?_)
        intro v125 a w126 χ127 hE hp hS
        replace hO := hO.mv hE rfl rfl
        clear hE
        obtain ⟨r128, hr⟩ : ∃ r, law32_awake = r := ⟨_, rfl⟩
        replace hm := hm r128 hr
        rw [hr] at hp
        clear hr
        subst hp
        refine endP T hS (sp := []) (ks := [4]) (bs := []) (sy' := ⟨[(4, B r128)], []⟩) (by kernel_rfl) ?_
        intro a hS
        refine wret ?_
        exact fin T hS hO (fun c => c) rfl (r := [.bool r128]) (by kernel_rfl) (fun χ' hM hC => ⟨r128, hm, rfl⟩)
      · replace hS := hS.lit (t := 58) (by kernel_rfl) hb
        replace hm := hm.2 hb
        refine endP T hS (sp := []) (ks := [4]) (bs := []) (sy' := ⟨[(4, B false)], []⟩) (by kernel_rfl) ?_
        intro a hS
        refine wret ?_
        exact fin T hS hO (fun c => c) rfl (r := [.bool false]) (by kernel_rfl) (fun χ' hM hC => ⟨false, hm, rfl⟩)
/-- replevin/replevinlaw32.PlacesForm -/
theorem W15 (k21 : S21) (k34 : S34) (k36 : S36) (k45 : S45) (k46 : S46) (k47 : S47) (k51 : S51) (w0 : World) (χ0 : Nat → Nat) (P : Numbering_Size) (O : List Int) (a1 : Option Addr) (c1 : Nat) (Q : Bool → Prop) (hm : VC15 P O Q) (h1 : RS tI w0 χ0 a1 O c1) :
    Ret Try.prog 15 #[.agg #[.int .i64 P.Ops, .int .i64 P.States], .slice a1 O.length c1] xnone w0 χ0 (fun w χ' v => ∃ r, Q r ∧ v = .bool r) := by
  unfold VC15 at hm
  replace hm := hm (h1.sm (by kernel_rfl))
  refine enter Try.func15 rfl (vals := [.agg #[.int .i64 P.Ops, .int .i64 P.States], .slice a1 O.length c1]) (by kernel_rfl) ?_
  intro ρ a hS hO hM
  replace h1 := h1.m0 hM
  clear hM
  refine regM T hS (sp := []) (ks := [1, 2]) (bs := [3]) (sy' := ⟨[(1, V (.slice a1 O.length c1)), (2, Pt 3 0)], [(3, (23, [I P.Ops, I P.States]))]⟩) (by kernel_rfl) ?_
  intro ρ a w150 χ151 hS hE hr
  replace hO := hO.mv hE rfl rfl
  replace h1 := h1.mv hE rfl
  clear hE hr
  refine wseq ?_
  refine wcut (fun a w => ∃ (ρ : Nat → Nat) (χ : Nat → Nat) (x_102 : Bool), VC15_J1 P O Q x_102 ∧ St Try.f15.ntmps ⟨[(1, V (.slice a1 O.length c1)), (2, Pt 3 0), (23, B x_102)], [(3, (23, [I P.Ops, I P.States]))]⟩ ρ a w χ ∧ Old w0 χ0 w χ ∧ RS tI w χ a1 O c1) ?_ ?_
  · refine region ?_
    refine opsP T hS 4 (sp := []) (ks := [1, 2, 14]) (bs := [3]) (sy' := ⟨[(1, V (.slice a1 O.length c1)), (2, Pt 3 0), (14, B (decide (P.Ops > 10)))], [(3, (23, [I P.Ops, I P.States]))]⟩) (by kernel_rfl) ?_
    intro a hS
    rcases Bool.eq_false_or_eq_true (decide (P.Ops > 10)) with hb | hb
    · replace hS := hS.lit (t := 14) (by kernel_rfl) hb
      replace hm := hm.1 hb
      refine endP T hS (sp := []) (ks := [1, 2, 23]) (bs := [3]) (sy' := ⟨[(1, V (.slice a1 O.length c1)), (2, Pt 3 0), (23, B true)], [(3, (23, [I P.Ops, I P.States]))]⟩) (by kernel_rfl) ?_
      intro a hS
      exact ⟨ρ, _, true, hm, hS.sel [1, 2, 23] [3] (by kernel_rfl), hO, h1⟩
    · replace hS := hS.lit (t := 14) (by kernel_rfl) hb
      replace hm := hm.2 hb
      refine opsP T hS 1 (sp := []) (ks := [1, 2, 14, 15]) (bs := [3]) (sy' := ⟨[(1, V (.slice a1 O.length c1)), (2, Pt 3 0), (14, B false), (15, V (.agg #[.int .i64 P.Ops, .int .i64 P.States]))], [(3, (23, [I P.Ops, I P.States]))]⟩) (by kernel_rfl) ?_
      intro a hS
      refine op1 (call hS (by kernel_rfl) (by kernel_rfl) hb21 (by kernel_rfl) (fun _ _ => rfl) (k21 _ _ P) ?_)
      intro v144 a w145 χ146 hE hp hS
      replace hO := hO.mv hE rfl rfl
      replace h1 := h1.mv hE rfl
      clear hE
      obtain ⟨r147, hr⟩ : ∃ r, numbering_Check P = r := ⟨_, rfl⟩
      replace hm := hm r147 hr
      rw [hr] at hp
      clear hr
      subst hp
      refine endP T hS (sp := [19]) (ks := [1, 2, 23]) (bs := [3]) (sy' := ⟨[(1, V (.slice a1 O.length c1)), (2, Pt 3 0), (23, B ((r147 != 0) || (decide (((O.length : Nat) : Int) > 100))))], [(3, (23, [I P.Ops, I P.States]))]⟩) (by kernel_rfl) ?_
      intro a hS
      exact ⟨ρ, _, ((r147 != 0) || (decide (((O.length : Nat) : Int) > 100))), hm, hS.sel [1, 2, 23] [3] (by kernel_rfl), hO, h1⟩
  · rintro a w149 ⟨ρ, χ148, x_102, hm, hS, hO, h101⟩
    unfold VC15_J1 at hm
    refine wcond hS (b := x_102) (by kernel_rfl) (fun hb => ?_) (fun hb => ?_)
    · replace hm := hm.1 hb
      refine regO ?_
      refine op1 (call hS (by kernel_rfl) (by kernel_rfl) hb46 (by kernel_rfl) (fun _ _ => rfl) (k46 _ _) ?_)
      intro v103 a w104 χ105 hE hp hS
      replace hO := hO.mv hE rfl rfl
      replace h101 := h101.mv hE rfl
      clear hE
      obtain ⟨r106, hr⟩ : ∃ r, law32_awake = r := ⟨_, rfl⟩
      replace hm := hm r106 hr
      rw [hr] at hp
      clear hr
      subst hp
      refine endP T hS (sp := []) (ks := [4]) (bs := []) (sy' := ⟨[(4, B r106)], []⟩) (by kernel_rfl) ?_
      intro a hS
      refine wret ?_
      exact fin T hS hO (fun c => c) rfl (r := [.bool r106]) (by kernel_rfl) (fun χ' hM hC => ⟨r106, hm, rfl⟩)
    · replace hm := hm.2 hb
      refine wskip ?_
      refine regO ?_
      refine opsP T hS 1 (sp := []) (ks := [1, 2, 25]) (bs := [3]) (sy' := ⟨[(1, V (.slice a1 O.length c1)), (2, Pt 3 0), (25, V (.agg #[.int .i64 P.Ops, .int .i64 P.States]))], [(3, (23, [I P.Ops, I P.States]))]⟩) (by kernel_rfl) ?_
      intro a hS
      refine op1 (call hS (by kernel_rfl) (by kernel_rfl) hb47 (by kernel_rfl) (fun _ _ => rfl) (k47 _ _ P) ?_)
      intro v107 a w108 χ109 hE hp hS
      replace hO := hO.mv hE rfl rfl
      replace h101 := h101.mv hE rfl
      clear hE
      obtain ⟨a111, c112, hp, h113⟩ := hp
      obtain ⟨r110, hr⟩ : ∃ r, places_Clauses P = r := ⟨_, rfl⟩
      replace hm := hm r110 hr
      rw [hr] at hp h113
      clear hr
      subst hp
      replace hm := hm (h113.sm (by kernel_rfl))
      refine endP T hS (sp := []) (ks := [1, 2, 5]) (bs := [3]) (sy' := ⟨[(1, V (.slice a1 O.length c1)), (2, Pt 3 0), (5, V (.slice a111 r110.length c112))], [(3, (23, [I P.Ops, I P.States]))]⟩) (by kernel_rfl) ?_
      intro a hS
      refine wseq ?_
      refine regP T hS (sp := []) (ks := [1, 2, 5, 6]) (bs := [3]) (sy' := ⟨[(1, V (.slice a1 O.length c1)), (2, Pt 3 0), (5, V (.slice a111 r110.length c112)), (6, I P.Ops)], [(3, (23, [I P.Ops, I P.States]))]⟩) (by kernel_rfl) ?_
      intro a hS
      refine regP T hS (sp := []) (ks := [1, 2, 5, 39]) (bs := [3]) (sy' := ⟨[(1, V (.slice a1 O.length c1)), (2, Pt 3 0), (5, V (.slice a111 r110.length c112)), (39, B (((r110.length : Nat) : Int) != (IntKind.i64.wrap (P.Ops + (IntKind.i64.wrap ((IntKind.i64.wrap (P.Ops * P.Ops)) * (IntKind.i64.wrap (P.Ops - 1))))))))], [(3, (23, [I P.Ops, I P.States]))]⟩) (by kernel_rfl) ?_
      intro a hS
      refine wcond hS (b := (((r110.length : Nat) : Int) != (IntKind.i64.wrap (P.Ops + (IntKind.i64.wrap ((IntKind.i64.wrap (P.Ops * P.Ops)) * (IntKind.i64.wrap (P.Ops - 1)))))))) (by kernel_rfl) (fun hb => ?_) (fun hb => ?_)
      · replace hm := hm.1 hb
        refine regP T hS (sp := []) (ks := [4]) (bs := []) (sy' := ⟨[(4, B false)], []⟩) (by kernel_rfl) ?_
        intro a hS
        refine wret ?_
        exact fin T hS hO (fun c => c) rfl (r := [.bool false]) (by kernel_rfl) (fun χ' hM hC => ⟨false, hm, rfl⟩)
      · replace hm := hm.2 hb
        refine wskip ?_
        refine regO ?_
        refine opsP T hS 2 (sp := []) (ks := [1, 2, 5, 41, 42]) (bs := [3]) (sy' := ⟨[(1, V (.slice a1 O.length c1)), (2, Pt 3 0), (5, V (.slice a111 r110.length c112)), (41, V (.agg #[.int .i64 P.Ops, .int .i64 P.States])), (42, V (.slice a1 O.length c1))], [(3, (23, [I P.Ops, I P.States]))]⟩) (by kernel_rfl) ?_
        intro a hS
        refine op1 (call hS (by kernel_rfl) (by kernel_rfl) hb45 (by kernel_rfl) (fun _ _ => rfl) (k45 _ _ P O a1 c1 h101) ?_)
        intro v114 a w115 χ116 hE hp hS
        replace hO := hO.mv hE rfl rfl
        replace h101 := h101.mv hE rfl
        replace h113 := h113.mv hE rfl
        clear hE
        obtain ⟨a118, c119, hp, h120⟩ := hp
        obtain ⟨r117, hr⟩ : ∃ r, places_Truths P O = r := ⟨_, rfl⟩
        replace hm := hm r117 hr
        rw [hr] at hp h120
        clear hr
        subst hp
        replace hm := hm (h120.sm (by kernel_rfl))
        refine endP T hS (sp := []) (ks := [1, 2, 5, 7, 8]) (bs := [3]) (sy' := ⟨[(1, V (.slice a1 O.length c1)), (2, Pt 3 0), (5, V (.slice a111 r110.length c112)), (7, V (.slice a118 r117.1.length c119)), (8, B r117.2)], [(3, (23, [I P.Ops, I P.States]))]⟩) (by kernel_rfl) ?_
        intro a hS
        refine wseq ?_
        refine regP T hS (sp := []) (ks := [1, 2, 5, 7, 47]) (bs := [3]) (sy' := ⟨[(1, V (.slice a1 O.length c1)), (2, Pt 3 0), (5, V (.slice a111 r110.length c112)), (7, V (.slice a118 r117.1.length c119)), (47, B (!r117.2))], [(3, (23, [I P.Ops, I P.States]))]⟩) (by kernel_rfl) ?_
        intro a hS
        refine wcond hS (b := (!r117.2)) (by kernel_rfl) (fun hb => ?_) (fun hb => ?_)
        · replace hm := hm.1 hb
          refine regO ?_
          refine opsP T hS 4 (sp := []) (ks := [51]) (bs := []) (sy' := ⟨[(51, B (((r117.1.length : Nat) : Int) == 0))], []⟩) (by kernel_rfl) ?_
          intro a hS
          rcases Bool.eq_false_or_eq_true (((r117.1.length : Nat) : Int) == 0) with hb | hb
          · replace hS := hS.lit (t := 51) (by kernel_rfl) hb
            replace hm := hm.1 hb
            refine op1 (call hS (by kernel_rfl) (by kernel_rfl) hb46 (by kernel_rfl) (fun _ _ => rfl) (k46 _ _) ?_)
            intro v121 a w122 χ123 hE hp hS
            replace hO := hO.mv hE rfl rfl
            clear hE
            obtain ⟨r124, hr⟩ : ∃ r, law32_awake = r := ⟨_, rfl⟩
            replace hm := hm r124 hr
            rw [hr] at hp
            clear hr
            subst hp
            refine endP T hS (sp := []) (ks := [4]) (bs := []) (sy' := ⟨[(4, B r124)], []⟩) (by kernel_rfl) ?_
            intro a hS
            refine wret ?_
            exact fin T hS hO (fun c => c) rfl (r := [.bool r124]) (by kernel_rfl) (fun χ' hM hC => ⟨r124, hm, rfl⟩)
          · replace hS := hS.lit (t := 51) (by kernel_rfl) hb
            replace hm := hm.2 hb
            refine endP T hS (sp := []) (ks := [4]) (bs := []) (sy' := ⟨[(4, B false)], []⟩) (by kernel_rfl) ?_
            intro a hS
            refine wret ?_
            exact fin T hS hO (fun c => c) rfl (r := [.bool false]) (by kernel_rfl) (fun χ' hM hC => ⟨false, hm, rfl⟩)
        · replace hm := hm.2 hb
          refine wskip ?_
          refine regO ?_
          refine opsP T hS 2 (sp := []) (ks := [1, 5, 7, 55, 56]) (bs := []) (sy' := ⟨[(1, V (.slice a1 O.length c1)), (5, V (.slice a111 r110.length c112)), (7, V (.slice a118 r117.1.length c119)), (55, V (.agg #[.int .i64 P.Ops, .int .i64 P.States])), (56, V (.slice a118 r117.1.length c119))], []⟩) (by kernel_rfl) ?_
          intro a hS
          refine op1 (call hS (by kernel_rfl) (by kernel_rfl) hb51 (by kernel_rfl) (fun _ _ => rfl) (k51 _ _ P r117.1 a118 c119 h120) ?_)
          intro v125 a w126 χ127 hE hp hS
          replace hO := hO.mv hE rfl rfl
          replace h101 := h101.mv hE rfl
          replace h113 := h113.mv hE rfl
          replace h120 := h120.mv hE rfl
          clear hE
          obtain ⟨a129, c130, hp, h131⟩ := hp
          obtain ⟨r128, hr⟩ : ∃ r, places_Order P r117.1 = r := ⟨_, rfl⟩
          replace hm := hm r128 hr
          rw [hr] at hp h131
          clear hr
          subst hp
          replace hm := hm (h131.sm (by kernel_rfl))
          refine endP T hS (sp := []) (ks := [1, 5, 7, 9, 10]) (bs := []) (sy' := ⟨[(1, V (.slice a1 O.length c1)), (5, V (.slice a111 r110.length c112)), (7, V (.slice a118 r117.1.length c119)), (9, V (.slice a129 r128.1.length c130)), (10, B r128.2)], []⟩) (by kernel_rfl) ?_
          intro a hS
          refine regO ?_
          refine opsP T hS 2 (sp := []) (ks := [1, 5, 7, 9, 61]) (bs := []) (sy' := ⟨[(1, V (.slice a1 O.length c1)), (5, V (.slice a111 r110.length c112)), (7, V (.slice a118 r117.1.length c119)), (9, V (.slice a129 r128.1.length c130)), (61, B r128.2)], []⟩) (by kernel_rfl) ?_
          intro a hS
          rcases Bool.eq_false_or_eq_true r128.2 with hb | hb
          · replace hS := hS.lit (t := 61) (by kernel_rfl) hb
            replace hm := hm.1 hb
            refine opsP T hS 2 (sp := []) (ks := [5, 7, 61, 62, 63]) (bs := []) (sy' := ⟨[(5, V (.slice a111 r110.length c112)), (7, V (.slice a118 r117.1.length c119)), (61, B true), (62, V (.slice a129 r128.1.length c130)), (63, V (.slice a1 O.length c1))], []⟩) (by kernel_rfl) ?_
            intro a hS
            refine op1 (call hS (by kernel_rfl) (by kernel_rfl) hb34 (by kernel_rfl) (fun _ _ => rfl) (k34 _ _ r128.1 O a129 c130 a1 c1 h131 h101) ?_)
            intro v132 a w133 χ134 hE hp hS
            replace hO := hO.mv hE rfl rfl
            replace h101 := h101.mv hE rfl
            replace h113 := h113.mv hE rfl
            replace h120 := h120.mv hE rfl
            replace h131 := h131.mv hE rfl
            clear hE
            obtain ⟨r135, hr⟩ : ∃ r, ref01_SameInts r128.1 O = r := ⟨_, rfl⟩
            replace hm := hm r135 hr
            rw [hr] at hp
            clear hr
            subst hp
            refine opsP T hS 2 (sp := []) (ks := [5, 7, 66]) (bs := []) (sy' := ⟨[(5, V (.slice a111 r110.length c112)), (7, V (.slice a118 r117.1.length c119)), (66, B r135)], []⟩) (by kernel_rfl) ?_
            intro a hS
            rcases Bool.eq_false_or_eq_true r135 with hb | hb
            · replace hS := hS.lit (t := 66) (by kernel_rfl) hb
              replace hm := hm.1 hb
              refine opsP T hS 3 (sp := []) (ks := [66, 68, 69]) (bs := []) (sy' := ⟨[(66, B true), (68, V (.agg #[.int .i64 0, .slice a111 r110.length c112])), (69, V (.slice a118 r117.1.length c119))], []⟩) (by kernel_rfl) ?_
              intro a hS
              refine op1 (call hS (by kernel_rfl) (by kernel_rfl) hb36 (by kernel_rfl) (fun _ _ => rfl) (k36 _ _ (⟨0, r110⟩ : Api_Formula) r117.1 a111 c112 a118 c119 h113 h120) ?_)
              intro v136 a w137 χ138 hE hp hS
              replace hO := hO.mv hE rfl rfl
              replace h113 := h113.mv hE rfl
              replace h120 := h120.mv hE rfl
              clear hE
              obtain ⟨r139, hr⟩ : ∃ r, ref04_First (⟨0, r110⟩ : Api_Formula) r117.1 = r := ⟨_, rfl⟩
              replace hm := hm r139 hr
              rw [hr] at hp
              clear hr
              subst hp
              refine opsP T hS 3 (sp := []) (ks := [73]) (bs := []) (sy' := ⟨[(73, B (decide (r139 < 0)))], []⟩) (by kernel_rfl) ?_
              intro a hS
              rcases Bool.eq_false_or_eq_true (decide (r139 < 0)) with hb | hb
              · replace hS := hS.lit (t := 73) (by kernel_rfl) hb
                replace hm := hm.1 hb
                refine op1 (call hS (by kernel_rfl) (by kernel_rfl) hb46 (by kernel_rfl) (fun _ _ => rfl) (k46 _ _) ?_)
                intro v140 a w141 χ142 hE hp hS
                replace hO := hO.mv hE rfl rfl
                clear hE
                obtain ⟨r143, hr⟩ : ∃ r, law32_awake = r := ⟨_, rfl⟩
                replace hm := hm r143 hr
                rw [hr] at hp
                clear hr
                subst hp
                refine endP T hS (sp := []) (ks := [4]) (bs := []) (sy' := ⟨[(4, B r143)], []⟩) (by kernel_rfl) ?_
                intro a hS
                refine wret ?_
                exact fin T hS hO (fun c => c) rfl (r := [.bool r143]) (by kernel_rfl) (fun χ' hM hC => ⟨r143, hm, rfl⟩)
              · replace hS := hS.lit (t := 73) (by kernel_rfl) hb
                replace hm := hm.2 hb
                refine endP T hS (sp := []) (ks := [4]) (bs := []) (sy' := ⟨[(4, B false)], []⟩) (by kernel_rfl) ?_
                intro a hS
                refine wret ?_
                exact fin T hS hO (fun c => c) rfl (r := [.bool false]) (by kernel_rfl) (fun χ' hM hC => ⟨false, hm, rfl⟩)
            · replace hS := hS.lit (t := 66) (by kernel_rfl) hb
              replace hm := hm.2 hb
              refine endP T hS (sp := []) (ks := [4]) (bs := []) (sy' := ⟨[(4, B false)], []⟩) (by kernel_rfl) ?_
              intro a hS
              refine wret ?_
              exact fin T hS hO (fun c => c) rfl (r := [.bool false]) (by kernel_rfl) (fun χ' hM hC => ⟨false, hm, rfl⟩)
          · replace hS := hS.lit (t := 61) (by kernel_rfl) hb
            replace hm := hm.2 hb
            refine endP T hS (sp := []) (ks := [4]) (bs := []) (sy' := ⟨[(4, B false)], []⟩) (by kernel_rfl) ?_
            intro a hS
            refine wret ?_
            exact fin T hS hO (fun c => c) rfl (r := [.bool false]) (by kernel_rfl) (fun χ' hM hC => ⟨false, hm, rfl⟩)
end Go.Proofs.Ytlpcjbjlgeaapaa
