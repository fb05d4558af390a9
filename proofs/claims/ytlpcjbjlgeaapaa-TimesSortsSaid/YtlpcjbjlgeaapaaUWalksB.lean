/- Walks: each function returns what its condition asks. Condition: the contracts of its callees, handed in. -/
import Derived.Test.YtlpcjbjlgeaapaaUWalks
set_option linter.all false
namespace Go.Proofs.Ytlpcjbjlgeaapaa
open Go Go.Sv
set_option maxHeartbeats 1000000
def S55 : Prop := ∀ (w : World) (χ : Nat → Nat) (l_ : List Api_Oper) (a1 : Option Addr) (c1 : Nat), prePairs l_ → RS tApi_Oper w χ a1 l_ c1 → Ret Try.prog 55 #[.slice a1 l_.length c1] xnone w χ (fun w χ' v => ∃ (ra1 : Option Addr) (rc1 : Nat), v = .slice ra1 (oper_Pairs l_).length rc1 ∧ RS tP2 w χ' ra1 (oper_Pairs l_) rc1)
theorem hb55 : hasBody Try.prog 55 = true := by kernel_rfl
/-- replevin/oper.Pairs -/
theorem W55 (k78 : S78) (w0 : World) (χ0 : Nat → Nat) (l_ : List Api_Oper) (a1 : Option Addr) (c1 : Nat) (Q : (List (Int × Int)) → Prop) (hm : VC55 l_ Q) (h1 : RS tApi_Oper w0 χ0 a1 l_ c1) :
    Ret Try.prog 55 #[.slice a1 l_.length c1] xnone w0 χ0 (fun w χ' v => ∃ r, Q r ∧ ∃ (ra1 : Option Addr) (rc1 : Nat), v = .slice ra1 r.length rc1 ∧ RS tP2 w χ' ra1 r rc1) := by
  unfold VC55 at hm
  replace hm := hm (h1.sm (by kernel_rfl))
  refine enter Try.func55 rfl (vals := [.slice a1 l_.length c1]) (by kernel_rfl) ?_
  intro ρ a hS hO hM
  replace h1 := h1.m0 hM
  clear hM
  refine regP T hS (sp := []) (ks := [0]) (bs := []) (sy' := ⟨[(0, V (.slice a1 l_.length c1))], []⟩) (by kernel_rfl) ?_
  intro a hS
  refine regP T hS (sp := []) (ks := [0, 3]) (bs := []) (sy' := ⟨[(0, V (.slice a1 l_.length c1)), (3, V (.slice none 0 0))], []⟩) (by kernel_rfl) ?_
  intro a hS
  refine wcut (fun a w => ∃ (ρ : Nat → Nat) (χ : Nat → Nat) (out_101 : List (Int × Int)) (a102 : Option Addr) (c103 : Nat), VC55_J1 Q out_101 ∧ St Try.f55.ntmps ⟨[(3, V (.slice a102 out_101.length c103))], []⟩ ρ a w χ ∧ Old w0 χ0 w χ ∧ OS tP2 68 w χ 1003 a102 out_101 c103) ?_ ?_
  · refine regP T hS (sp := []) (ks := [0, 3, 8, 9, 10]) (bs := []) (sy' := ⟨[(0, V (.slice a1 l_.length c1)), (3, V (.slice none 0 0)), (8, V (.slice a1 l_.length c1)), (9, I ((l_.length : Nat) : Int)), (10, I 0)], []⟩) (by kernel_rfl) ?_
    intro a hS
    refine wblock ?_
    obtain ⟨I1, μ1, hm0, hm⟩ := hm
    refine wloop (σ := (List (Int × Int)) × Int) (fun s a w => ∃ (ρ : Nat → Nat) (χ : Nat → Nat) (a109 : Option Addr) (c110 : Nat), I1 s.1 s.2 ∧ St Try.f55.ntmps ⟨[(0, V (.slice a1 l_.length c1)), (3, V (.slice a109 s.1.length c110)), (8, V (.slice a1 l_.length c1)), (9, I ((l_.length : Nat) : Int)), (10, I s.2)], []⟩ ρ a w χ ∧ Old w0 χ0 w χ ∧ RS tApi_Oper w χ a1 l_ c1 ∧ OS tP2 68 w χ 1003 a109 s.1 c110 ∧ RS tApi_Oper w χ a1 l_ c1) (fun s => μ1 s.1 s.2) (⟨[], 0⟩) ?_ ?_
    · exact ⟨ρ, _, none, 0, hm0, hS.sel [0, 3, 8, 9, 10] [] (by kernel_rfl), hO, h1, (OS.nil _ _ _ _ _), h1⟩
    · rintro ⟨out_108, x_113⟩ a w165 ⟨ρ, χ164, a109, c110, hI, hS, hO, h107, h111, h112⟩
      replace hm := hm out_108 x_113 hI
      clear hI hm0
      refine regP T hS (sp := []) (ks := [0, 3, 8, 9, 10, 11]) (bs := []) (sy' := ⟨[(0, V (.slice a1 l_.length c1)), (3, V (.slice a109 out_108.length c110)), (8, V (.slice a1 l_.length c1)), (9, I ((l_.length : Nat) : Int)), (10, I x_113), (11, B (decide (x_113 < ((l_.length : Nat) : Int))))], []⟩) (by kernel_rfl) ?_
      intro a hS
      refine wseq ?_
      refine wcond hS (b := decide (x_113 < ((l_.length : Nat) : Int))) (by kernel_rfl) (fun hb => ?_) (fun hb => ?_)
      · replace hm := hm.1 hb
        refine wskip ?_
        refine wcut (fun a w => ∃ (ρ : Nat → Nat) (χ : Nat → Nat) (out_115 : List (Int × Int)) (a116 : Option Addr) (c117 : Nat), VC55_J2 I1 μ1 out_108 x_113 out_115 ∧ St Try.f55.ntmps ⟨[(0, V (.slice a1 l_.length c1)), (3, V (.slice a116 out_115.length c117)), (8, V (.slice a1 l_.length c1)), (9, I ((l_.length : Nat) : Int)), (10, I x_113)], []⟩ ρ a w χ ∧ Old w0 χ0 w χ ∧ RS tApi_Oper w χ a1 l_ c1 ∧ OS tP2 68 w χ 1003 a116 out_115 c117 ∧ RS tApi_Oper w χ a1 l_ c1) ?_ ?_
        · refine wblock ?_
          refine regO ?_
          refine opsP T hS 1 (sp := []) (ks := [0, 3, 8, 9, 10, 12]) (bs := []) (sy' := ⟨[(0, V (.slice a1 l_.length c1)), (3, V (.slice a109 out_108.length c110)), (8, V (.slice a1 l_.length c1)), (9, I ((l_.length : Nat) : Int)), (10, I x_113), (12, I x_113)], []⟩) (by kernel_rfl) ?_
          intro a hS
          obtain ⟨hq, hm⟩ := hm
          refine op1 (index (e := 101) (k := .i64) T hS (by kernel_rfl) (by kernel_rfl) (by kernel_rfl) (by kernel_rfl) h112 (by kernel_rfl) (by kernel_rfl) hq.1 hq.2 ?_)
          intro A120 a h121 hS
          clear hq
          refine op1 (loadA T hS (by kernel_rfl) (by kernel_rfl) (by kernel_rfl) h121 (by kernel_rfl) (by kernel_rfl) ?_)
          intro v122 a hv hS
          subst hv
          refine endM T hS (sp := []) (ks := [0, 3, 4, 5, 8, 9, 10]) (bs := [6]) (sy' := ⟨[(0, V (.slice a1 l_.length c1)), (3, V (.slice a109 out_108.length c110)), (4, I x_113), (5, Pt 6 0), (8, V (.slice a1 l_.length c1)), (9, I ((l_.length : Nat) : Int)), (10, I x_113)], [(6, (101, [I ((gi l_ x_113).Prc), I ((gi l_ x_113).Kind), I ((gi l_ x_113).Start), I ((gi l_ x_113).End), I ((gi l_ x_113).Result)]))]⟩) (by kernel_rfl) ?_
          intro ρ a w160 χ161 hS hE hr
          replace hO := hO.mv hE rfl rfl
          replace h107 := h107.mv hE rfl
          replace h111 := h111.mv hE rfl rfl
          replace h112 := h112.mv hE rfl
          clear hE hr
          refine regP T hS (sp := []) (ks := [0, 3, 4, 5, 8, 9, 10, 15, 16, 17]) (bs := [6]) (sy' := ⟨[(0, V (.slice a1 l_.length c1)), (3, V (.slice a109 out_108.length c110)), (4, I x_113), (5, Pt 6 0), (8, V (.slice a1 l_.length c1)), (9, I ((l_.length : Nat) : Int)), (10, I x_113), (15, V (.slice a1 l_.length c1)), (16, I ((l_.length : Nat) : Int)), (17, I 0)], [(6, (101, [I ((gi l_ x_113).Prc), I ((gi l_ x_113).Kind), I ((gi l_ x_113).Start), I ((gi l_ x_113).End), I ((gi l_ x_113).Result)]))]⟩) (by kernel_rfl) ?_
          intro a hS
          refine wblock ?_
          obtain ⟨I2, μ2, hm0, hm⟩ := hm
          refine wloop (σ := (List (Int × Int)) × Int) (fun s a w => ∃ (ρ : Nat → Nat) (χ : Nat → Nat) (a125 : Option Addr) (c126 : Nat), I2 s.1 s.2 ∧ St Try.f55.ntmps ⟨[(0, V (.slice a1 l_.length c1)), (3, V (.slice a125 s.1.length c126)), (4, I x_113), (5, Pt 6 0), (8, V (.slice a1 l_.length c1)), (9, I ((l_.length : Nat) : Int)), (10, I x_113), (15, V (.slice a1 l_.length c1)), (16, I ((l_.length : Nat) : Int)), (17, I s.2)], [(6, (101, [I ((gi l_ x_113).Prc), I ((gi l_ x_113).Kind), I ((gi l_ x_113).Start), I ((gi l_ x_113).End), I ((gi l_ x_113).Result)]))]⟩ ρ a w χ ∧ Old w0 χ0 w χ ∧ RS tApi_Oper w χ a1 l_ c1 ∧ OS tP2 68 w χ 1003 a125 s.1 c126 ∧ RS tApi_Oper w χ a1 l_ c1 ∧ RS tApi_Oper w χ a1 l_ c1) (fun s => μ2 s.1 s.2) (⟨out_108, 0⟩) ?_ ?_
          · exact ⟨ρ, _, a109, c110, hm0, hS.sel [0, 3, 4, 5, 8, 9, 10, 15, 16, 17] [6] (by kernel_rfl), hO, h107, h111, h112, h107⟩
          · rintro ⟨out_124, x_130⟩ a w159 ⟨ρ, χ158, a125, c126, hI, hS, hO, h123, h127, h128, h129⟩
            replace hm := hm out_124 x_130 hI
            clear hI hm0
            refine regP T hS (sp := []) (ks := [0, 3, 4, 5, 8, 9, 10, 15, 16, 17, 18]) (bs := [6]) (sy' := ⟨[(0, V (.slice a1 l_.length c1)), (3, V (.slice a125 out_124.length c126)), (4, I x_113), (5, Pt 6 0), (8, V (.slice a1 l_.length c1)), (9, I ((l_.length : Nat) : Int)), (10, I x_113), (15, V (.slice a1 l_.length c1)), (16, I ((l_.length : Nat) : Int)), (17, I x_130), (18, B (decide (x_130 < ((l_.length : Nat) : Int))))], [(6, (101, [I ((gi l_ x_113).Prc), I ((gi l_ x_113).Kind), I ((gi l_ x_113).Start), I ((gi l_ x_113).End), I ((gi l_ x_113).Result)]))]⟩) (by kernel_rfl) ?_
            intro a hS
            refine wseq ?_
            refine wcond hS (b := decide (x_130 < ((l_.length : Nat) : Int))) (by kernel_rfl) (fun hb => ?_) (fun hb => ?_)
            · replace hm := hm.1 hb
              refine wskip ?_
              refine wcut (fun a w => ∃ (ρ : Nat → Nat) (χ : Nat → Nat) (out_132 : List (Int × Int)) (a133 : Option Addr) (c134 : Nat), VC55_J3 I2 μ2 out_124 x_130 out_132 ∧ St Try.f55.ntmps ⟨[(0, V (.slice a1 l_.length c1)), (3, V (.slice a133 out_132.length c134)), (4, I x_113), (5, Pt 6 0), (8, V (.slice a1 l_.length c1)), (9, I ((l_.length : Nat) : Int)), (10, I x_113), (15, V (.slice a1 l_.length c1)), (16, I ((l_.length : Nat) : Int)), (17, I x_130)], [(6, (101, [I ((gi l_ x_113).Prc), I ((gi l_ x_113).Kind), I ((gi l_ x_113).Start), I ((gi l_ x_113).End), I ((gi l_ x_113).Result)]))]⟩ ρ a w χ ∧ Old w0 χ0 w χ ∧ RS tApi_Oper w χ a1 l_ c1 ∧ OS tP2 68 w χ 1003 a133 out_132 c134 ∧ RS tApi_Oper w χ a1 l_ c1 ∧ RS tApi_Oper w χ a1 l_ c1) ?_ ?_
              · refine wblock ?_
                refine regO ?_
                refine opsP T hS 1 (sp := []) (ks := [0, 3, 4, 5, 8, 9, 10, 15, 16, 17, 19]) (bs := [6]) (sy' := ⟨[(0, V (.slice a1 l_.length c1)), (3, V (.slice a125 out_124.length c126)), (4, I x_113), (5, Pt 6 0), (8, V (.slice a1 l_.length c1)), (9, I ((l_.length : Nat) : Int)), (10, I x_113), (15, V (.slice a1 l_.length c1)), (16, I ((l_.length : Nat) : Int)), (17, I x_130), (19, I x_130)], [(6, (101, [I ((gi l_ x_113).Prc), I ((gi l_ x_113).Kind), I ((gi l_ x_113).Start), I ((gi l_ x_113).End), I ((gi l_ x_113).Result)]))]⟩) (by kernel_rfl) ?_
                intro a hS
                obtain ⟨hq, hm⟩ := hm
                refine op1 (index (e := 101) (k := .i64) T hS (by kernel_rfl) (by kernel_rfl) (by kernel_rfl) (by kernel_rfl) h129 (by kernel_rfl) (by kernel_rfl) hq.1 hq.2 ?_)
                intro A138 a h139 hS
                clear hq
                refine op1 (loadA T hS (by kernel_rfl) (by kernel_rfl) (by kernel_rfl) h139 (by kernel_rfl) (by kernel_rfl) ?_)
                intro v140 a hv hS
                subst hv
                refine endM T hS (sp := []) (ks := [0, 3, 4, 5, 6, 7, 8, 9, 10, 15, 16, 17]) (bs := [6, 8]) (sy' := ⟨[(0, V (.slice a1 l_.length c1)), (3, V (.slice a125 out_124.length c126)), (4, I x_113), (5, Pt 6 0), (6, I x_130), (7, Pt 8 0), (8, V (.slice a1 l_.length c1)), (9, I ((l_.length : Nat) : Int)), (10, I x_113), (15, V (.slice a1 l_.length c1)), (16, I ((l_.length : Nat) : Int)), (17, I x_130)], [(6, (101, [I ((gi l_ x_113).Prc), I ((gi l_ x_113).Kind), I ((gi l_ x_113).Start), I ((gi l_ x_113).End), I ((gi l_ x_113).Result)])), (8, (101, [I ((gi l_ x_130).Prc), I ((gi l_ x_130).Kind), I ((gi l_ x_130).Start), I ((gi l_ x_130).End), I ((gi l_ x_130).Result)]))]⟩) (by kernel_rfl) ?_
                intro ρ a w154 χ155 hS hE hr
                replace hO := hO.mv hE rfl rfl
                replace h123 := h123.mv hE rfl
                replace h127 := h127.mv hE rfl rfl
                replace h128 := h128.mv hE rfl
                replace h129 := h129.mv hE rfl
                clear hE hr
                refine regO ?_
                refine opsP T hS 2 (sp := []) (ks := [0, 3, 4, 5, 6, 8, 9, 10, 15, 16, 17, 22, 23]) (bs := [6]) (sy' := ⟨[(0, V (.slice a1 l_.length c1)), (3, V (.slice a125 out_124.length c126)), (4, I x_113), (5, Pt 6 0), (6, I x_130), (8, V (.slice a1 l_.length c1)), (9, I ((l_.length : Nat) : Int)), (10, I x_113), (15, V (.slice a1 l_.length c1)), (16, I ((l_.length : Nat) : Int)), (17, I x_130), (22, V (.agg #[.int .i64 ((gi l_ x_113).Prc), .int .i64 ((gi l_ x_113).Kind), .int .i64 ((gi l_ x_113).Start), .int .i64 ((gi l_ x_113).End), .int .i64 ((gi l_ x_113).Result)])), (23, V (.agg #[.int .i64 ((gi l_ x_130).Prc), .int .i64 ((gi l_ x_130).Kind), .int .i64 ((gi l_ x_130).Start), .int .i64 ((gi l_ x_130).End), .int .i64 ((gi l_ x_130).Result)]))], [(6, (101, [I ((gi l_ x_113).Prc), I ((gi l_ x_113).Kind), I ((gi l_ x_113).Start), I ((gi l_ x_113).End), I ((gi l_ x_113).Result)]))]⟩) (by kernel_rfl) ?_
                intro a hS
                refine op1 (call hS (by kernel_rfl) (by kernel_rfl) hb78 (by kernel_rfl) (fun _ _ => rfl) (k78 _ _ (gi l_ x_113) (gi l_ x_130)) ?_)
                intro v141 a w142 χ143 hE hp hS
                replace hO := hO.mv hE rfl rfl
                replace h123 := h123.mv hE rfl
                replace h127 := h127.mv hE rfl rfl
                replace h128 := h128.mv hE rfl
                replace h129 := h129.mv hE rfl
                clear hE
                obtain ⟨r144, hr⟩ : ∃ r, oper_Ahead (gi l_ x_113) (gi l_ x_130) = r := ⟨_, rfl⟩
                replace hm := hm r144 hr
                rw [hr] at hp
                clear hr
                subst hp
                refine doneK ?_
                refine wcond hS (b := r144) (by kernel_rfl) (fun hb => ?_) (fun hb => ?_)
                · replace hm := hm.1 hb
                  refine region ?_
                  refine opsP T hS 4 (sp := []) (ks := [0, 3, 4, 5, 8, 9, 10, 15, 16, 17, 25, 28]) (bs := [6]) (sy' := ⟨[(0, V (.slice a1 l_.length c1)), (3, V (.slice a125 out_124.length c126)), (4, I x_113), (5, Pt 6 0), (8, V (.slice a1 l_.length c1)), (9, I ((l_.length : Nat) : Int)), (10, I x_113), (15, V (.slice a1 l_.length c1)), (16, I ((l_.length : Nat) : Int)), (17, I x_130), (25, V (.slice a125 out_124.length c126)), (28, V (.agg #[.int .i64 x_113, .int .i64 x_130]))], [(6, (101, [I ((gi l_ x_113).Prc), I ((gi l_ x_113).Kind), I ((gi l_ x_113).Start), I ((gi l_ x_113).End), I ((gi l_ x_113).Result)]))]⟩) (by kernel_rfl) ?_
                  intro a hS
                  refine op1 (lit (E := 68) (col := 0) (T := tP2) (vals := [.agg #[.int .i64 x_113, .int .i64 x_130]]) (ys := [(x_113, x_130)]) T hS (by kernel_rfl) (by kernel_rfl) (by kernel_rfl) (by kernel_rfl) (by exact ⟨rfl, trivial⟩) rfl (by kernel_rfl) (by kernel_rfl) (by kernel_rfl) (by kernel_rfl) ?_)
                  intro b145 a w146 χ147 hE h148 hN hS
                  clear hN
                  replace hO := hO.mv hE rfl rfl
                  replace h123 := h123.mv hE rfl
                  replace h127 := h127.mv hE rfl rfl
                  replace h128 := h128.mv hE rfl
                  replace h129 := h129.mv hE rfl
                  clear hE
                  replace h148 := h148.rs0
                  obtain ⟨hq, hm⟩ := hm
                  obtain ⟨news, hN⟩ := h148.src
                  refine op1 (append (E := 68) (T := tP2) (col := 1003) (xs := out_124) T hS (by kernel_rfl) (by kernel_rfl) (by kernel_rfl) (by kernel_rfl) h127 hN (by kernel_rfl) (by kernel_rfl) (by kernel_rfl) (by kernel_rfl) hq ?_)
                  intro a152 c153 a w149 χ150 hE h151 hS
                  clear hq hN
                  clear h127
                  replace hO := hO.mv hE rfl rfl
                  replace h123 := h123.mv hE rfl
                  replace h128 := h128.mv hE rfl
                  replace h129 := h129.mv hE rfl
                  replace h148 := h148.mv hE rfl
                  clear hE
                  refine endP T hS (sp := []) (ks := [0, 3, 4, 5, 8, 9, 10, 15, 16, 17]) (bs := [6]) (sy' := ⟨[(0, V (.slice a1 l_.length c1)), (3, V (.slice a152 (out_124 ++ [(x_113, x_130)]).length c153)), (4, I x_113), (5, Pt 6 0), (8, V (.slice a1 l_.length c1)), (9, I ((l_.length : Nat) : Int)), (10, I x_113), (15, V (.slice a1 l_.length c1)), (16, I ((l_.length : Nat) : Int)), (17, I x_130)], [(6, (101, [I ((gi l_ x_113).Prc), I ((gi l_ x_113).Kind), I ((gi l_ x_113).Start), I ((gi l_ x_113).End), I ((gi l_ x_113).Result)]))]⟩) (by kernel_rfl) ?_
                  intro a hS
                  exact ⟨ρ, _, out_124 ++ [(x_113, x_130)], a152, c153, hm, hS.sel [0, 3, 4, 5, 8, 9, 10, 15, 16, 17] [6] (by kernel_rfl), hO, h123, h151, h128, h129⟩
                · replace hm := hm.2 hb
                  refine wskip ?_
                  exact ⟨ρ, _, out_124, a125, c126, hm, hS.sel [0, 3, 4, 5, 8, 9, 10, 15, 16, 17] [6] (by kernel_rfl), hO, h123, h127, h128, h129⟩
              · rintro a w157 ⟨ρ, χ156, out_132, a133, c134, hm, hS, hO, h131, h135, h136, h137⟩
                unfold VC55_J3 at hm
                refine region (endP T hS (sp := []) (ks := [0, 3, 4, 5, 8, 9, 10, 15, 16, 17]) (bs := [6]) (sy' := ⟨[(0, V (.slice a1 l_.length c1)), (3, V (.slice a133 out_132.length c134)), (4, I x_113), (5, Pt 6 0), (8, V (.slice a1 l_.length c1)), (9, I ((l_.length : Nat) : Int)), (10, I x_113), (15, V (.slice a1 l_.length c1)), (16, I ((l_.length : Nat) : Int)), (17, I (IntKind.i64.wrap (x_130 + 1)))], [(6, (101, [I ((gi l_ x_113).Prc), I ((gi l_ x_113).Kind), I ((gi l_ x_113).Start), I ((gi l_ x_113).End), I ((gi l_ x_113).Result)]))]⟩) (by kernel_rfl) ?_)
                intro a hS
                exact ⟨⟨out_132, IntKind.i64.wrap (x_130 + 1)⟩, ⟨ρ, _, a133, c134, hm.1, hS.sel [0, 3, 4, 5, 8, 9, 10, 15, 16, 17] [6] (by kernel_rfl), hO, h131, h135, h136, h137⟩, hm.2⟩
            · replace hm := hm.2 hb
              refine wexit (by rfl) ?_
              exact ⟨ρ, _, out_124, a125, c126, hm, hS.sel [0, 3, 8, 9, 10] [] (by kernel_rfl), hO, h123, h127, h128⟩
        · rintro a w163 ⟨ρ, χ162, out_115, a116, c117, hm, hS, hO, h114, h118, h119⟩
          unfold VC55_J2 at hm
          refine region (endP T hS (sp := []) (ks := [0, 3, 8, 9, 10]) (bs := []) (sy' := ⟨[(0, V (.slice a1 l_.length c1)), (3, V (.slice a116 out_115.length c117)), (8, V (.slice a1 l_.length c1)), (9, I ((l_.length : Nat) : Int)), (10, I (IntKind.i64.wrap (x_113 + 1)))], []⟩) (by kernel_rfl) ?_)
          intro a hS
          exact ⟨⟨out_115, IntKind.i64.wrap (x_113 + 1)⟩, ⟨ρ, _, a116, c117, hm.1, hS.sel [0, 3, 8, 9, 10] [] (by kernel_rfl), hO, h114, h118, h119⟩, hm.2⟩
      · replace hm := hm.2 hb
        refine wexit (by rfl) ?_
        exact ⟨ρ, _, out_108, a109, c110, hm, hS.sel [3] [] (by kernel_rfl), hO, h111⟩
  · rintro a w167 ⟨ρ, χ166, out_101, a102, c103, hm, hS, hO, h104⟩
    unfold VC55_J1 at hm
    refine regP T hS (sp := []) (ks := [2]) (bs := []) (sy' := ⟨[(2, V (.slice a102 out_101.length c103))], []⟩) (by kernel_rfl) ?_
    intro a hS
    refine wret ?_
    obtain ⟨χ105, hE, hF⟩ := h104.freeze (by decide)
    replace hS := hS.ev hE (xone_box (by kernel_rfl))
    replace hO := hO.mv hE rfl rfl
    have h106 := hF; clear hE hF
    exact fin T hS hO (fun c => c) rfl (r := [.slice a102 out_101.length c103]) (by kernel_rfl) (fun χ' hM hC => ⟨out_101, hm, a102, c103, rfl, h106.m0 hM⟩)
theorem C55 (k78 : S78) (v : ∀ (l_ : List Api_Oper), prePairs l_ → VC55 l_ (fun r => r = oper_Pairs l_)) : S55 := by
  intro w χ l_ a1 c1   hp h1
  refine (W55 k78 w χ l_ a1 c1   _ (v l_ hp) h1).mono ?_
  rintro _ _ _ _ ⟨r, rfl, h⟩
  exact h
/-- replevin/replevinlaw33.TimesSorts -/
theorem W16 (k37 : S37) (k40 : S40) (k54 : S54) (k55 : S55) (w0 : World) (χ0 : Nat → Nat) (l_ : List Api_Oper) (a1 : Option Addr) (c1 : Nat) (Q : Bool → Prop) (hm : VC16 l_ Q) (h1 : RS tApi_Oper w0 χ0 a1 l_ c1) :
    Ret Try.prog 16 #[.slice a1 l_.length c1] xnone w0 χ0 (fun w χ' v => ∃ r, Q r ∧ v = .bool r) := by
  unfold VC16 at hm
  replace hm := hm (h1.sm (by kernel_rfl))
  refine enter Try.func16 rfl (vals := [.slice a1 l_.length c1]) (by kernel_rfl) ?_
  intro ρ a hS hO hM
  replace h1 := h1.m0 hM
  clear hM
  refine regP T hS (sp := []) (ks := [0]) (bs := []) (sy' := ⟨[(0, V (.slice a1 l_.length c1))], []⟩) (by kernel_rfl) ?_
  intro a hS
  refine wseq ?_
  refine regP T hS (sp := []) (ks := [0, 10]) (bs := []) (sy' := ⟨[(0, V (.slice a1 l_.length c1)), (10, B (decide (((l_.length : Nat) : Int) > 40)))], []⟩) (by kernel_rfl) ?_
  intro a hS
  refine wcond hS (b := decide (((l_.length : Nat) : Int) > 40)) (by kernel_rfl) (fun hb => ?_) (fun hb => ?_)
  · replace hm := hm.1 hb
    refine regO ?_
    refine op1 (call hS (by kernel_rfl) (by kernel_rfl) hb37 (by kernel_rfl) (fun _ _ => rfl) (k37 _ _) ?_)
    intro v101 a w102 χ103 hE hp hS
    replace hO := hO.mv hE rfl rfl
    replace h1 := h1.mv hE rfl
    clear hE
    obtain ⟨r104, hr⟩ : ∃ r, law33_awake = r := ⟨_, rfl⟩
    replace hm := hm r104 hr
    rw [hr] at hp
    clear hr
    subst hp
    refine endP T hS (sp := []) (ks := [2]) (bs := []) (sy' := ⟨[(2, B r104)], []⟩) (by kernel_rfl) ?_
    intro a hS
    refine wret ?_
    exact fin T hS hO (fun c => c) rfl (r := [.bool r104]) (by kernel_rfl) (fun χ' hM hC => ⟨r104, hm, rfl⟩)
  · replace hm := hm.2 hb
    refine wskip ?_
    refine wseq ?_
    refine regO ?_
    refine opsP T hS 1 (sp := []) (ks := [0, 13]) (bs := []) (sy' := ⟨[(0, V (.slice a1 l_.length c1)), (13, V (.slice a1 l_.length c1))], []⟩) (by kernel_rfl) ?_
    intro a hS
    refine op1 (call hS (by kernel_rfl) (by kernel_rfl) hb54 (by kernel_rfl) (fun _ _ => rfl) (k54 _ _ l_ a1 c1 h1) ?_)
    intro v105 a w106 χ107 hE hp hS
    replace hO := hO.mv hE rfl rfl
    replace h1 := h1.mv hE rfl
    clear hE
    obtain ⟨r108, hr⟩ : ∃ r, oper_Check l_ = r := ⟨_, rfl⟩
    replace hm := hm r108 hr
    rw [hr] at hp
    clear hr
    subst hp
    refine endP T hS (sp := []) (ks := [0, 4]) (bs := []) (sy' := ⟨[(0, V (.slice a1 l_.length c1)), (4, I r108.2)], []⟩) (by kernel_rfl) ?_
    intro a hS
    refine regP T hS (sp := []) (ks := [0, 18]) (bs := []) (sy' := ⟨[(0, V (.slice a1 l_.length c1)), (18, B (r108.2 != 0))], []⟩) (by kernel_rfl) ?_
    intro a hS
    refine wcond hS (b := (r108.2 != 0)) (by kernel_rfl) (fun hb => ?_) (fun hb => ?_)
    · replace hm := hm.1 hb
      refine regO ?_
      refine op1 (call hS (by kernel_rfl) (by kernel_rfl) hb37 (by kernel_rfl) (fun _ _ => rfl) (k37 _ _) ?_)
      intro v109 a w110 χ111 hE hp hS
      replace hO := hO.mv hE rfl rfl
      replace h1 := h1.mv hE rfl
      clear hE
      obtain ⟨r112, hr⟩ : ∃ r, law33_awake = r := ⟨_, rfl⟩
      replace hm := hm r112 hr
      rw [hr] at hp
      clear hr
      subst hp
      refine endP T hS (sp := []) (ks := [2]) (bs := []) (sy' := ⟨[(2, B r112)], []⟩) (by kernel_rfl) ?_
      intro a hS
      refine wret ?_
      exact fin T hS hO (fun c => c) rfl (r := [.bool r112]) (by kernel_rfl) (fun χ' hM hC => ⟨r112, hm, rfl⟩)
    · replace hm := hm.2 hb
      refine wskip ?_
      refine regO ?_
      refine opsP T hS 3 (sp := []) (ks := [0, 22, 23]) (bs := []) (sy' := ⟨[(0, V (.slice a1 l_.length c1)), (22, I ((l_.length : Nat) : Int)), (23, V (.slice a1 l_.length c1))], []⟩) (by kernel_rfl) ?_
      intro a hS
      obtain ⟨hq, hm⟩ := hm
      refine op1 (call hS (by kernel_rfl) (by kernel_rfl) hb55 (by kernel_rfl) (fun _ _ => rfl) (k55 _ _ l_ a1 c1 hq h1) ?_)
      intro v113 a w114 χ115 hE hp hS
      clear hq
      replace hO := hO.mv hE rfl rfl
      replace h1 := h1.mv hE rfl
      clear hE
      obtain ⟨a117, c118, hp, h119⟩ := hp
      obtain ⟨r116, hr⟩ : ∃ r, oper_Pairs l_ = r := ⟨_, rfl⟩
      replace hm := hm r116 hr
      rw [hr] at hp h119
      clear hr
      subst hp
      replace hm := hm (h119.sm (by kernel_rfl))
      refine op1 (call hS (by kernel_rfl) (by kernel_rfl) hb40 (by kernel_rfl) (fun _ _ => rfl) (k40 _ _ ((l_.length : Nat) : Int) r116 a117 c118 h119) ?_)
      intro v120 a w121 χ122 hE hp hS
      replace hO := hO.mv hE rfl rfl
      replace h1 := h1.mv hE rfl
      replace h119 := h119.mv hE rfl
      clear hE
      obtain ⟨a124, c125, hp, h126⟩ := hp
      obtain ⟨r123, hr⟩ : ∃ r, times_Sort ((l_.length : Nat) : Int) r116 = r := ⟨_, rfl⟩
      replace hm := hm r123 hr
      rw [hr] at hp h126
      clear hr
      subst hp
      replace hm := hm (h126.sm (by kernel_rfl))
      refine endP T hS (sp := []) (ks := [0, 5, 6]) (bs := []) (sy' := ⟨[(0, V (.slice a1 l_.length c1)), (5, V (.slice a124 r123.1.length c125)), (6, B r123.2)], []⟩) (by kernel_rfl) ?_
      intro a hS
      refine wseq ?_
      refine regP T hS (sp := [30]) (ks := [5, 36]) (bs := []) (sy' := ⟨[(5, V (.slice a124 r123.1.length c125)), (36, B ((!r123.2) || (((r123.1.length : Nat) : Int) != ((l_.length : Nat) : Int))))], []⟩) (by kernel_rfl) ?_
      intro a hS
      refine wcond hS (b := ((!r123.2) || (((r123.1.length : Nat) : Int) != ((l_.length : Nat) : Int)))) (by kernel_rfl) (fun hb => ?_) (fun hb => ?_)
      · replace hm := hm.1 hb
        refine regP T hS (sp := []) (ks := [2]) (bs := []) (sy' := ⟨[(2, B false)], []⟩) (by kernel_rfl) ?_
        intro a hS
        refine wret ?_
        exact fin T hS hO (fun c => c) rfl (r := [.bool false]) (by kernel_rfl) (fun χ' hM hC => ⟨false, hm, rfl⟩)
      · replace hm := hm.2 hb
        refine wskip ?_
        refine wcut (fun a w => ∃ (ρ : Nat → Nat) (χ : Nat → Nat), VC16_J1 Q ∧ St Try.f16.ntmps ⟨[], []⟩ ρ a w χ ∧ Old w0 χ0 w χ) ?_ ?_
        · refine regP T hS (sp := []) (ks := [5, 7]) (bs := []) (sy' := ⟨[(5, V (.slice a124 r123.1.length c125)), (7, I 0)], []⟩) (by kernel_rfl) ?_
          intro a hS
          refine wblock ?_
          obtain ⟨I1, μ1, hm0, hm⟩ := hm
          refine wloop (σ := Int) (fun s a w => ∃ (ρ : Nat → Nat) (χ : Nat → Nat), I1 s ∧ St Try.f16.ntmps ⟨[(5, V (.slice a124 r123.1.length c125)), (7, I s)], []⟩ ρ a w χ ∧ Old w0 χ0 w χ ∧ RS tI w χ a124 r123.1 c125) (fun s => μ1 s) (0) ?_ ?_
          · exact ⟨ρ, _, hm0, hS.sel [5, 7] [] (by kernel_rfl), hO, h126⟩
          · rintro i_132 a w137 ⟨ρ, χ136, hI, hS, hO, h131⟩
            replace hm := hm i_132 hI
            clear hI hm0
            refine wseq ?_
            refine regP T hS (sp := []) (ks := [5, 7, 40]) (bs := []) (sy' := ⟨[(5, V (.slice a124 r123.1.length c125)), (7, I i_132), (40, B (decide (i_132 < ((r123.1.length : Nat) : Int))))], []⟩) (by kernel_rfl) ?_
            intro a hS
            refine wcond hS (b := decide (i_132 < ((r123.1.length : Nat) : Int))) (by kernel_rfl) (fun hb => ?_) (fun hb => ?_)
            · replace hm := hm.1 hb
              refine wskip ?_
              refine wseq ?_
              refine wblock ?_
              refine regO ?_
              refine opsP T hS 2 (sp := []) (ks := [5, 7, 43, 44]) (bs := []) (sy' := ⟨[(5, V (.slice a124 r123.1.length c125)), (7, I i_132), (43, V (.slice a124 r123.1.length c125)), (44, I i_132)], []⟩) (by kernel_rfl) ?_
              intro a hS
              obtain ⟨hq, hm⟩ := hm
              refine op1 (index (e := 3) (k := .i64) T hS (by kernel_rfl) (by kernel_rfl) (by kernel_rfl) (by kernel_rfl) h131 (by kernel_rfl) (by kernel_rfl) hq.1 hq.2 ?_)
              intro A133 a h134 hS
              clear hq
              refine op1 (load1 T hS (by kernel_rfl) (by kernel_rfl) (by kernel_rfl) h134 rfl (by kernel_rfl) ?_)
              intro v135 a hv hS
              cases hv
              refine endP T hS (sp := []) (ks := [5, 7, 48]) (bs := []) (sy' := ⟨[(5, V (.slice a124 r123.1.length c125)), (7, I i_132), (48, B ((gi r123.1 i_132) != i_132))], []⟩) (by kernel_rfl) ?_
              intro a hS
              refine wcond hS (b := ((gi r123.1 i_132) != i_132)) (by kernel_rfl) (fun hb => ?_) (fun hb => ?_)
              · replace hm := hm.1 hb
                refine regP T hS (sp := []) (ks := [2]) (bs := []) (sy' := ⟨[(2, B false)], []⟩) (by kernel_rfl) ?_
                intro a hS
                refine wret ?_
                exact fin T hS hO (fun c => c) rfl (r := [.bool false]) (by kernel_rfl) (fun χ' hM hC => ⟨false, hm, rfl⟩)
              · replace hm := hm.2 hb
                refine wskip ?_
                refine region (endP T hS (sp := []) (ks := [5, 7]) (bs := []) (sy' := ⟨[(5, V (.slice a124 r123.1.length c125)), (7, I (IntKind.i64.wrap (i_132 + 1)))], []⟩) (by kernel_rfl) ?_)
                intro a hS
                exact ⟨IntKind.i64.wrap (i_132 + 1), ⟨ρ, _, hm.1, hS.sel [5, 7] [] (by kernel_rfl), hO, h131⟩, hm.2⟩
            · replace hm := hm.2 hb
              refine wexit (by rfl) ?_
              exact ⟨ρ, _, hm, hS.sel [] [] (by kernel_rfl), hO⟩
        · rintro a w139 ⟨ρ, χ138, hm, hS, hO⟩
          unfold VC16_J1 at hm
          refine regO ?_
          refine op1 (call hS (by kernel_rfl) (by kernel_rfl) hb37 (by kernel_rfl) (fun _ _ => rfl) (k37 _ _) ?_)
          intro v127 a w128 χ129 hE hp hS
          replace hO := hO.mv hE rfl rfl
          clear hE
          obtain ⟨r130, hr⟩ : ∃ r, law33_awake = r := ⟨_, rfl⟩
          replace hm := hm r130 hr
          rw [hr] at hp
          clear hr
          subst hp
          refine endP T hS (sp := []) (ks := [2]) (bs := []) (sy' := ⟨[(2, B r130)], []⟩) (by kernel_rfl) ?_
          intro a hS
          refine wret ?_
          exact fin T hS hO (fun c => c) rfl (r := [.bool r130]) (by kernel_rfl) (fun χ' hM hC => ⟨r130, hm, rfl⟩)
end Go.Proofs.Ytlpcjbjlgeaapaa
