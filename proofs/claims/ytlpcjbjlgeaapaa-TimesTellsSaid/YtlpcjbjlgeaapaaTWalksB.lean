/- Walks: each function returns what its condition asks. Condition: the contracts of its callees, handed in. -/
import Derived.Test.YtlpcjbjlgeaapaaTWalks
set_option linter.all false
namespace Go.Proofs.Ytlpcjbjlgeaapaa
open Go Go.Sv
set_option maxHeartbeats 1000000
def S45 : Prop := ∀ (w : World) (χ : Nat → Nat) (s_ : Numbering_Size) (order : List Int) (a1 : Option Addr) (c1 : Nat), RS tI w χ a1 order c1 → Ret Try.prog 45 #[.agg #[.int .i64 s_.Ops, .int .i64 s_.States], .slice a1 order.length c1] xnone w χ (fun w χ' v => ∃ (ra1 : Option Addr) (rc1 : Nat), v = .tuple #[.slice ra1 ((places_Truths s_ order).1).length rc1, .bool ((places_Truths s_ order).2)] ∧ RS tBool w χ' ra1 ((places_Truths s_ order).1) rc1)
theorem hb45 : hasBody Try.prog 45 = true := by kernel_rfl
/-- replevin/places.Truths -/
theorem W45 (k21 : S21) (k23 : S23) (k24 : S24) (k68 : S68) (w0 : World) (χ0 : Nat → Nat) (s_ : Numbering_Size) (order : List Int) (a1 : Option Addr) (c1 : Nat) (Q : (List Bool) × Bool → Prop) (hm : VC45 s_ order Q) (h1 : RS tI w0 χ0 a1 order c1) :
    Ret Try.prog 45 #[.agg #[.int .i64 s_.Ops, .int .i64 s_.States], .slice a1 order.length c1] xnone w0 χ0 (fun w χ' v => ∃ r, Q r ∧ ∃ (ra1 : Option Addr) (rc1 : Nat), v = .tuple #[.slice ra1 r.1.length rc1, .bool r.2] ∧ RS tBool w χ' ra1 r.1 rc1) := by
  unfold VC45 at hm
  replace hm := hm (h1.sm (by kernel_rfl))
  refine enter Try.func45 rfl (vals := [.agg #[.int .i64 s_.Ops, .int .i64 s_.States], .slice a1 order.length c1]) (by kernel_rfl) ?_
  intro ρ a hS hO hM
  replace h1 := h1.m0 hM
  clear hM
  refine regM T hS (sp := []) (ks := [1, 2]) (bs := [3]) (sy' := ⟨[(1, V (.slice a1 order.length c1)), (2, Pt 3 0)], [(3, (23, [I s_.Ops, I s_.States]))]⟩) (by kernel_rfl) ?_
  intro ρ a w158 χ159 hS hE hr
  replace hO := hO.mv hE rfl rfl
  replace h1 := h1.mv hE rfl
  clear hE hr
  refine wseq ?_
  refine regO ?_
  refine opsP T hS 1 (sp := []) (ks := [1, 2, 9]) (bs := [3]) (sy' := ⟨[(1, V (.slice a1 order.length c1)), (2, Pt 3 0), (9, V (.agg #[.int .i64 s_.Ops, .int .i64 s_.States]))], [(3, (23, [I s_.Ops, I s_.States]))]⟩) (by kernel_rfl) ?_
  intro a hS
  refine op1 (call hS (by kernel_rfl) (by kernel_rfl) hb21 (by kernel_rfl) (fun _ _ => rfl) (k21 _ _ s_) ?_)
  intro v101 a w102 χ103 hE hp hS
  replace hO := hO.mv hE rfl rfl
  replace h1 := h1.mv hE rfl
  clear hE
  obtain ⟨r104, hr⟩ : ∃ r, numbering_Check s_ = r := ⟨_, rfl⟩
  replace hm := hm r104 hr
  rw [hr] at hp
  clear hr
  subst hp
  refine endP T hS (sp := [12]) (ks := [1, 2, 18]) (bs := [3]) (sy' := ⟨[(1, V (.slice a1 order.length c1)), (2, Pt 3 0), (18, B ((r104 != 0) || (((order.length : Nat) : Int) != s_.Ops)))], [(3, (23, [I s_.Ops, I s_.States]))]⟩) (by kernel_rfl) ?_
  intro a hS
  refine wcond hS (b := ((r104 != 0) || (((order.length : Nat) : Int) != s_.Ops))) (by kernel_rfl) (fun hb => ?_) (fun hb => ?_)
  · replace hm := hm.1 hb
    refine regP T hS (sp := []) (ks := [4, 5]) (bs := []) (sy' := ⟨[(4, V (.slice none 0 0)), (5, B false)], []⟩) (by kernel_rfl) ?_
    intro a hS
    refine wret ?_
    exact fin T hS hO (fun c => c) rfl (r := [.slice none 0 0, .bool false]) (by kernel_rfl) (fun χ' hM hC => ⟨([], false), hm, none, 0, rfl, RS.empty _ _ _⟩)
  · replace hm := hm.2 hb
    refine wskip ?_
    refine regO ?_
    refine opsP T hS 1 (sp := []) (ks := [1, 2, 19]) (bs := [3]) (sy' := ⟨[(1, V (.slice a1 order.length c1)), (2, Pt 3 0), (19, V (.agg #[.int .i64 s_.Ops, .int .i64 s_.States]))], [(3, (23, [I s_.Ops, I s_.States]))]⟩) (by kernel_rfl) ?_
    intro a hS
    refine op1 (call hS (by kernel_rfl) (by kernel_rfl) hb23 (by kernel_rfl) (fun _ _ => rfl) (k23 _ _ s_) ?_)
    intro v105 a w106 χ107 hE hp hS
    replace hO := hO.mv hE rfl rfl
    replace h1 := h1.mv hE rfl
    clear hE
    obtain ⟨r108, hr⟩ : ∃ r, numbering_Vars s_ = r := ⟨_, rfl⟩
    replace hm := hm r108 hr
    rw [hr] at hp
    clear hr
    subst hp
    obtain ⟨hq, hm⟩ := hm
    refine op1 (make (E := 4) (kl := .i64) (kc := .i64) (col := 1005) (T := tBool) T false hS (by kernel_rfl) (by kernel_rfl) (by kernel_rfl) (by kernel_rfl) (by kernel_rfl) (by kernel_rfl) hq.1 hq.2.1 (by have := hq.2.2; simp only [tI, tInt, tBool, tStr, tSlice]; omega) (by have := hq.2.2; omega) (fun _ _ => rfl) ?_)
    intro b109 a w110 χ111 hE h112 hN hS
    clear hq hN
    replace hO := hO.mv hE rfl rfl
    replace h1 := h1.mv hE rfl
    clear hE
    replace hS := hS.conv (t := 21) (y := .slice (some ⟨b109, 0, none⟩) (List.replicate r108.toNat (false : Bool)).length r108.toNat) (by kernel_rfl) (by rw [List.length_replicate])
    refine endP T hS (sp := []) (ks := [1, 2, 6]) (bs := [3]) (sy' := ⟨[(1, V (.slice a1 order.length c1)), (2, Pt 3 0), (6, V (.slice (some ⟨b109, 0, none⟩) (List.replicate r108.toNat (false : Bool)).length r108.toNat))], [(3, (23, [I s_.Ops, I s_.States]))]⟩) (by kernel_rfl) ?_
    intro a hS
    refine wcut (fun a w => ∃ (ρ : Nat → Nat) (χ : Nat → Nat) (m_113 : List Bool) (a114 : Option Addr) (c115 : Nat), VC45_J1 Q m_113 ∧ St Try.f45.ntmps ⟨[(6, V (.slice a114 m_113.length c115))], []⟩ ρ a w χ ∧ Old w0 χ0 w χ ∧ OS tBool 4 w χ 1005 a114 m_113 c115) ?_ ?_
    · refine regP T hS (sp := []) (ks := [1, 2, 6, 22, 23, 24]) (bs := [3]) (sy' := ⟨[(1, V (.slice a1 order.length c1)), (2, Pt 3 0), (6, V (.slice (some ⟨b109, 0, none⟩) (List.replicate r108.toNat (false : Bool)).length r108.toNat)), (22, V (.slice a1 order.length c1)), (23, I ((order.length : Nat) : Int)), (24, I 0)], [(3, (23, [I s_.Ops, I s_.States]))]⟩) (by kernel_rfl) ?_
      intro a hS
      refine wblock ?_
      obtain ⟨I1, μ1, hm0, hm⟩ := hm
      refine wloop (σ := (List Bool) × Int) (fun s a w => ∃ (ρ : Nat → Nat) (χ : Nat → Nat) (a121 : Option Addr) (c122 : Nat), I1 s.1 s.2 ∧ St Try.f45.ntmps ⟨[(1, V (.slice a1 order.length c1)), (2, Pt 3 0), (6, V (.slice a121 s.1.length c122)), (22, V (.slice a1 order.length c1)), (23, I ((order.length : Nat) : Int)), (24, I s.2)], [(3, (23, [I s_.Ops, I s_.States]))]⟩ ρ a w χ ∧ Old w0 χ0 w χ ∧ RS tI w χ a1 order c1 ∧ OS tBool 4 w χ 1005 a121 s.1 c122 ∧ RS tI w χ a1 order c1) (fun s => μ1 s.1 s.2) (⟨List.replicate r108.toNat (false : Bool), 0⟩) ?_ ?_
      · exact ⟨ρ, _, (some ⟨b109, 0, none⟩), r108.toNat, hm0, hS.sel [1, 2, 6, 22, 23, 24] [3] (by kernel_rfl), hO, h1, h112, h1⟩
      · rintro ⟨m_120, x_125⟩ a w155 ⟨ρ, χ154, a121, c122, hI, hS, hO, h119, h123, h124⟩
        replace hm := hm m_120 x_125 hI
        clear hI hm0
        refine regP T hS (sp := []) (ks := [1, 2, 6, 22, 23, 24, 25]) (bs := [3]) (sy' := ⟨[(1, V (.slice a1 order.length c1)), (2, Pt 3 0), (6, V (.slice a121 m_120.length c122)), (22, V (.slice a1 order.length c1)), (23, I ((order.length : Nat) : Int)), (24, I x_125), (25, B (decide (x_125 < ((order.length : Nat) : Int))))], [(3, (23, [I s_.Ops, I s_.States]))]⟩) (by kernel_rfl) ?_
        intro a hS
        refine wseq ?_
        refine wcond hS (b := decide (x_125 < ((order.length : Nat) : Int))) (by kernel_rfl) (fun hb => ?_) (fun hb => ?_)
        · replace hm := hm.1 hb
          refine wskip ?_
          refine wseq ?_
          refine wblock ?_
          refine regO ?_
          refine opsP T hS 1 (sp := []) (ks := [1, 2, 6, 22, 23, 24, 26]) (bs := [3]) (sy' := ⟨[(1, V (.slice a1 order.length c1)), (2, Pt 3 0), (6, V (.slice a121 m_120.length c122)), (22, V (.slice a1 order.length c1)), (23, I ((order.length : Nat) : Int)), (24, I x_125), (26, I x_125)], [(3, (23, [I s_.Ops, I s_.States]))]⟩) (by kernel_rfl) ?_
          intro a hS
          obtain ⟨hq, hm⟩ := hm
          refine op1 (index (e := 3) (k := .i64) T hS (by kernel_rfl) (by kernel_rfl) (by kernel_rfl) (by kernel_rfl) h124 (by kernel_rfl) (by kernel_rfl) hq.1 hq.2 ?_)
          intro A126 a h127 hS
          clear hq
          refine op1 (load1 T hS (by kernel_rfl) (by kernel_rfl) (by kernel_rfl) h127 rfl (by kernel_rfl) ?_)
          intro v128 a hv hS
          cases hv
          refine endP T hS (sp := []) (ks := [1, 2, 6, 7, 8, 22, 23, 24]) (bs := [3]) (sy' := ⟨[(1, V (.slice a1 order.length c1)), (2, Pt 3 0), (6, V (.slice a121 m_120.length c122)), (7, I x_125), (8, I (gi order x_125)), (22, V (.slice a1 order.length c1)), (23, I ((order.length : Nat) : Int)), (24, I x_125)], [(3, (23, [I s_.Ops, I s_.States]))]⟩) (by kernel_rfl) ?_
          intro a hS
          refine wseq ?_
          refine wcut (fun a w => ∃ (ρ : Nat → Nat) (χ : Nat → Nat) (m_130 : List Bool) (x_135 : Bool) (a131 : Option Addr) (c132 : Nat), VC45_J2 s_ order Q I1 μ1 m_120 x_125 m_130 x_135 ∧ St Try.f45.ntmps ⟨[(1, V (.slice a1 order.length c1)), (2, Pt 3 0), (6, V (.slice a131 m_130.length c132)), (7, I x_125), (8, I (gi order x_125)), (22, V (.slice a1 order.length c1)), (23, I ((order.length : Nat) : Int)), (24, I x_125), (43, B x_135)], [(3, (23, [I s_.Ops, I s_.States]))]⟩ ρ a w χ ∧ Old w0 χ0 w χ ∧ RS tI w χ a1 order c1 ∧ OS tBool 4 w χ 1005 a131 m_130 c132 ∧ RS tI w χ a1 order c1) ?_ ?_
          · refine region ?_
            refine opsP T hS 9 (sp := [31]) (ks := [1, 2, 6, 7, 8, 22, 23, 24, 37]) (bs := [3]) (sy' := ⟨[(1, V (.slice a1 order.length c1)), (2, Pt 3 0), (6, V (.slice a121 m_120.length c122)), (7, I x_125), (8, I (gi order x_125)), (22, V (.slice a1 order.length c1)), (23, I ((order.length : Nat) : Int)), (24, I x_125), (37, B ((decide ((gi order x_125) < 0)) || (decide ((gi order x_125) ≥ s_.Ops))))], [(3, (23, [I s_.Ops, I s_.States]))]⟩) (by kernel_rfl) ?_
            intro a hS
            rcases Bool.eq_false_or_eq_true ((decide ((gi order x_125) < 0)) || (decide ((gi order x_125) ≥ s_.Ops))) with hb | hb
            · replace hS := hS.lit (t := 37) (by kernel_rfl) hb
              replace hm := hm.1 hb
              refine endP T hS (sp := []) (ks := [1, 2, 6, 7, 8, 22, 23, 24, 43]) (bs := [3]) (sy' := ⟨[(1, V (.slice a1 order.length c1)), (2, Pt 3 0), (6, V (.slice a121 m_120.length c122)), (7, I x_125), (8, I (gi order x_125)), (22, V (.slice a1 order.length c1)), (23, I ((order.length : Nat) : Int)), (24, I x_125), (43, B true)], [(3, (23, [I s_.Ops, I s_.States]))]⟩) (by kernel_rfl) ?_
              intro a hS
              exact ⟨ρ, _, m_120, true, a121, c122, hm, hS.sel [1, 2, 6, 7, 8, 22, 23, 24, 43] [3] (by kernel_rfl), hO, h119, h123, h124⟩
            · replace hS := hS.lit (t := 37) (by kernel_rfl) hb
              replace hm := hm.2 hb
              refine opsP T hS 2 (sp := []) (ks := [1, 2, 6, 7, 8, 22, 23, 24, 37, 38, 39]) (bs := [3]) (sy' := ⟨[(1, V (.slice a1 order.length c1)), (2, Pt 3 0), (6, V (.slice a121 m_120.length c122)), (7, I x_125), (8, I (gi order x_125)), (22, V (.slice a1 order.length c1)), (23, I ((order.length : Nat) : Int)), (24, I x_125), (37, B false), (38, V (.slice a1 order.length c1)), (39, I x_125)], [(3, (23, [I s_.Ops, I s_.States]))]⟩) (by kernel_rfl) ?_
              intro a hS
              obtain ⟨hq, hm⟩ := hm
              refine op1 (slice0 (E := 3) (kh := .i64) T hS (by kernel_rfl) (by kernel_rfl) (by kernel_rfl) (by kernel_rfl) h119 (by kernel_rfl) (by kernel_rfl) hq.1 hq.2 ?_)
              intro a145 c146 a h147 hS
              clear hq
              refine opsP T hS 1 (sp := []) (ks := [1, 2, 6, 7, 8, 22, 23, 24, 37, 38, 39, 40, 41]) (bs := [3]) (sy' := ⟨[(1, V (.slice a1 order.length c1)), (2, Pt 3 0), (6, V (.slice a121 m_120.length c122)), (7, I x_125), (8, I (gi order x_125)), (22, V (.slice a1 order.length c1)), (23, I ((order.length : Nat) : Int)), (24, I x_125), (37, B false), (38, V (.slice a1 order.length c1)), (39, I x_125), (40, V (.slice a145 (order.take x_125.toNat).length c146)), (41, I (gi order x_125))], [(3, (23, [I s_.Ops, I s_.States]))]⟩) (by kernel_rfl) ?_
              intro a hS
              refine op1 (call hS (by kernel_rfl) (by kernel_rfl) hb68 (by kernel_rfl) (fun _ _ => rfl) (k68 _ _ (order.take x_125.toNat) (gi order x_125) a145 c146 h147) ?_)
              intro v148 a w149 χ150 hE hp hS
              replace hO := hO.mv hE rfl rfl
              replace h119 := h119.mv hE rfl
              replace h123 := h123.mv hE rfl rfl
              replace h124 := h124.mv hE rfl
              replace h147 := h147.mv hE rfl
              clear hE
              obtain ⟨r151, hr⟩ : ∃ r, slices_Contains_int_int (order.take x_125.toNat) (gi order x_125) = r := ⟨_, rfl⟩
              replace hm := hm r151 hr
              rw [hr] at hp
              clear hr
              subst hp
              refine endP T hS (sp := []) (ks := [1, 2, 6, 7, 8, 22, 23, 24, 38, 39, 40, 41, 42, 43]) (bs := [3]) (sy' := ⟨[(1, V (.slice a1 order.length c1)), (2, Pt 3 0), (6, V (.slice a121 m_120.length c122)), (7, I x_125), (8, I (gi order x_125)), (22, V (.slice a1 order.length c1)), (23, I ((order.length : Nat) : Int)), (24, I x_125), (38, V (.slice a1 order.length c1)), (39, I x_125), (40, V (.slice a145 (order.take x_125.toNat).length c146)), (41, I (gi order x_125)), (42, B r151), (43, B r151)], [(3, (23, [I s_.Ops, I s_.States]))]⟩) (by kernel_rfl) ?_
              intro a hS
              exact ⟨ρ, _, m_120, r151, a121, c122, hm, hS.sel [1, 2, 6, 7, 8, 22, 23, 24, 43] [3] (by kernel_rfl), hO, h119, h123, h124⟩
          · rintro a w153 ⟨ρ, χ152, m_130, x_135, a131, c132, hm, hS, hO, h129, h133, h134⟩
            unfold VC45_J2 at hm
            refine wcond hS (b := x_135) (by kernel_rfl) (fun hb => ?_) (fun hb => ?_)
            · replace hm := hm.1 hb
              refine regP T hS (sp := []) (ks := [4, 5]) (bs := []) (sy' := ⟨[(4, V (.slice none 0 0)), (5, B false)], []⟩) (by kernel_rfl) ?_
              intro a hS
              refine wret ?_
              exact fin T hS hO (fun c => c) rfl (r := [.slice none 0 0, .bool false]) (by kernel_rfl) (fun χ' hM hC => ⟨([], false), hm, none, 0, rfl, RS.empty _ _ _⟩)
            · replace hm := hm.2 hb
              refine wskip ?_
              refine region ?_
              refine opsP T hS 5 (sp := []) (ks := [1, 2, 6, 22, 23, 24, 44, 45, 48]) (bs := [3]) (sy' := ⟨[(1, V (.slice a1 order.length c1)), (2, Pt 3 0), (6, V (.slice a131 m_130.length c132)), (22, V (.slice a1 order.length c1)), (23, I ((order.length : Nat) : Int)), (24, I x_125), (44, V (.slice a131 m_130.length c132)), (45, V (.agg #[.int .i64 s_.Ops, .int .i64 s_.States])), (48, V (.agg #[.int .i64 1, .int .i64 (gi order x_125), .int .i64 x_125]))], [(3, (23, [I s_.Ops, I s_.States]))]⟩) (by kernel_rfl) ?_
              intro a hS
              refine op1 (call hS (by kernel_rfl) (by kernel_rfl) hb24 (by kernel_rfl) (fun _ _ => rfl) (k24 _ _ s_ (⟨1, gi order x_125, x_125⟩ : Numbering_Name)) ?_)
              intro v136 a w137 χ138 hE hp hS
              replace hO := hO.mv hE rfl rfl
              replace h129 := h129.mv hE rfl
              replace h133 := h133.mv hE rfl rfl
              replace h134 := h134.mv hE rfl
              clear hE
              obtain ⟨r139, hr⟩ : ∃ r, numbering_Var s_ (⟨1, gi order x_125, x_125⟩ : Numbering_Name) = r := ⟨_, rfl⟩
              replace hm := hm r139 hr
              rw [hr] at hp
              clear hr
              subst hp
              refine opsP T hS 1 (sp := []) (ks := [1, 2, 6, 22, 23, 24, 44, 50]) (bs := [3]) (sy' := ⟨[(1, V (.slice a1 order.length c1)), (2, Pt 3 0), (6, V (.slice a131 m_130.length c132)), (22, V (.slice a1 order.length c1)), (23, I ((order.length : Nat) : Int)), (24, I x_125), (44, V (.slice a131 m_130.length c132)), (50, I (IntKind.i64.wrap (r139 - 1)))], [(3, (23, [I s_.Ops, I s_.States]))]⟩) (by kernel_rfl) ?_
              intro a hS
              obtain ⟨hq, hm⟩ := hm
              refine op1 (indexO (E := 4) (k := .i64) T hS (by kernel_rfl) (by kernel_rfl) (by kernel_rfl) (by kernel_rfl) h133 (by kernel_rfl) (by kernel_rfl) hq.1 hq.2 ?_)
              intro A140 a h142 h141 hS
              refine op1 (storeO (x := true) (v := B true) (i := (IntKind.i64.wrap (r139 - 1)).toNat) (E := 4) (xs := m_130) T hS (by kernel_rfl) (by kernel_rfl) (by kernel_rfl) (by kernel_rfl) h133 h142 (by have := hq.1; have := hq.2; omega) (by kernel_rfl) (fun _ _ _ => rfl) ?_)
              intro a w143 hE h144 hS
              clear h133 h142 h141 hq
              replace hO := hO.mv hE rfl rfl
              replace h129 := h129.mv hE rfl
              replace h134 := h134.mv hE rfl
              clear hE
              replace hS := hS.conv (t := 6) (y := .slice a131 (m_130.set (IntKind.i64.wrap (r139 - 1)).toNat true).length c132) (by kernel_rfl) (by rw [List.length_set])
              replace hS := hS.conv (t := 44) (y := .slice a131 (m_130.set (IntKind.i64.wrap (r139 - 1)).toNat true).length c132) (by kernel_rfl) (by rw [List.length_set])
              refine doneK ?_
              refine region (endP T hS (sp := []) (ks := [1, 2, 6, 22, 23, 24]) (bs := [3]) (sy' := ⟨[(1, V (.slice a1 order.length c1)), (2, Pt 3 0), (6, V (.slice a131 (m_130.set (IntKind.i64.wrap (r139 - 1)).toNat true).length c132)), (22, V (.slice a1 order.length c1)), (23, I ((order.length : Nat) : Int)), (24, I (IntKind.i64.wrap (x_125 + 1)))], [(3, (23, [I s_.Ops, I s_.States]))]⟩) (by kernel_rfl) ?_)
              intro a hS
              exact ⟨⟨(m_130.set (IntKind.i64.wrap (r139 - 1)).toNat true), IntKind.i64.wrap (x_125 + 1)⟩, ⟨ρ, _, a131, c132, hm.1, hS.sel [1, 2, 6, 22, 23, 24] [3] (by kernel_rfl), hO, h129, h144, h134⟩, hm.2⟩
        · replace hm := hm.2 hb
          refine wexit (by rfl) ?_
          exact ⟨ρ, _, m_120, a121, c122, hm, hS.sel [6] [] (by kernel_rfl), hO, h123⟩
    · rintro a w157 ⟨ρ, χ156, m_113, a114, c115, hm, hS, hO, h116⟩
      unfold VC45_J1 at hm
      refine regP T hS (sp := []) (ks := [4, 5]) (bs := []) (sy' := ⟨[(4, V (.slice a114 m_113.length c115)), (5, B true)], []⟩) (by kernel_rfl) ?_
      intro a hS
      refine wret ?_
      obtain ⟨χ117, hE, hF⟩ := h116.freeze (by decide)
      replace hS := hS.ev hE (xone_box (by kernel_rfl))
      replace hO := hO.mv hE rfl rfl
      have h118 := hF; clear hE hF
      exact fin T hS hO (fun c => c) rfl (r := [.slice a114 m_113.length c115, .bool true]) (by kernel_rfl) (fun χ' hM hC => ⟨(m_113, true), hm, a114, c115, rfl, h118.m0 hM⟩)
theorem C45 (k21 : S21) (k23 : S23) (k24 : S24) (k68 : S68) (v : ∀ (s_ : Numbering_Size) (order : List Int), VC45 s_ order (fun r => r = places_Truths s_ order)) : S45 := by
  intro w χ s_ order a1 c1   h1
  refine (W45 k21 k23 k24 k68 w χ s_ order a1 c1   _ (v s_ order) h1).mono ?_
  rintro _ _ _ _ ⟨r, rfl, h⟩
  exact h
/-- replevin/replevinlaw33.TimesTells -/
theorem W9 (k31 : S31) (k34 : S34) (k37 : S37) (k38 : S38) (k39 : S39) (k40 : S40) (k41 : S41) (k42 : S42) (k43 : S43) (w0 : World) (χ0 : Nat → Nat) (P : Numbering_Size) (O : List (Int × Int)) (S : List Int) (a1 : Option Addr) (c1 : Nat) (a2 : Option Addr) (c2 : Nat) (Q : Bool → Prop) (hm : VC9 P O S Q) (h1 : RS tP2 w0 χ0 a1 O c1) (h2 : RS tI w0 χ0 a2 S c2) :
    Ret Try.prog 9 #[.agg #[.int .i64 P.Ops, .int .i64 P.States], .slice a1 O.length c1, .slice a2 S.length c2] xnone w0 χ0 (fun w χ' v => ∃ r, Q r ∧ v = .bool r) := by
  unfold VC9 at hm
  replace hm := hm (h1.sm (by kernel_rfl))
  replace hm := hm (h2.sm (by kernel_rfl))
  refine enter Try.func9 rfl (vals := [.agg #[.int .i64 P.Ops, .int .i64 P.States], .slice a1 O.length c1, .slice a2 S.length c2]) (by kernel_rfl) ?_
  intro ρ a hS hO hM
  replace h1 := h1.m0 hM
  replace h2 := h2.m0 hM
  clear hM
  refine regM T hS (sp := []) (ks := [1, 2, 3]) (bs := [4]) (sy' := ⟨[(1, V (.slice a1 O.length c1)), (2, V (.slice a2 S.length c2)), (3, Pt 4 0)], [(4, (23, [I P.Ops, I P.States]))]⟩) (by kernel_rfl) ?_
  intro ρ a w154 χ155 hS hE hr
  replace hO := hO.mv hE rfl rfl
  replace h1 := h1.mv hE rfl
  replace h2 := h2.mv hE rfl
  clear hE hr
  refine wseq ?_
  refine regP T hS (sp := [18, 23, 28]) (ks := [1, 2, 3, 32]) (bs := [4]) (sy' := ⟨[(1, V (.slice a1 O.length c1)), (2, V (.slice a2 S.length c2)), (3, Pt 4 0), (32, B ((((decide (P.Ops > 12)) && (decide (P.Ops ≤ 64))) || (decide (((O.length : Nat) : Int) > 60))) || (decide (((S.length : Nat) : Int) > 60))))], [(4, (23, [I P.Ops, I P.States]))]⟩) (by kernel_rfl) ?_
  intro a hS
  refine wcond hS (b := ((((decide (P.Ops > 12)) && (decide (P.Ops ≤ 64))) || (decide (((O.length : Nat) : Int) > 60))) || (decide (((S.length : Nat) : Int) > 60)))) (by kernel_rfl) (fun hb => ?_) (fun hb => ?_)
  · replace hm := hm.1 hb
    refine regO ?_
    refine op1 (call hS (by kernel_rfl) (by kernel_rfl) hb37 (by kernel_rfl) (fun _ _ => rfl) (k37 _ _) ?_)
    intro v101 a w102 χ103 hE hp hS
    replace hO := hO.mv hE rfl rfl
    replace h1 := h1.mv hE rfl
    replace h2 := h2.mv hE rfl
    clear hE
    obtain ⟨r104, hr⟩ : ∃ r, law33_awake = r := ⟨_, rfl⟩
    replace hm := hm r104 hr
    rw [hr] at hp
    clear hr
    subst hp
    refine endP T hS (sp := []) (ks := [6]) (bs := []) (sy' := ⟨[(6, B r104)], []⟩) (by kernel_rfl) ?_
    intro a hS
    refine wret ?_
    exact fin T hS hO (fun c => c) rfl (r := [.bool r104]) (by kernel_rfl) (fun χ' hM hC => ⟨r104, hm, rfl⟩)
  · replace hm := hm.2 hb
    refine wskip ?_
    refine regO ?_
    refine opsP T hS 2 (sp := []) (ks := [1, 2, 3, 35, 36]) (bs := [4]) (sy' := ⟨[(1, V (.slice a1 O.length c1)), (2, V (.slice a2 S.length c2)), (3, Pt 4 0), (35, V (.slice a2 S.length c2)), (36, V (.slice a1 O.length c1))], [(4, (23, [I P.Ops, I P.States]))]⟩) (by kernel_rfl) ?_
    intro a hS
    refine op1 (call hS (by kernel_rfl) (by kernel_rfl) hb38 (by kernel_rfl) (fun _ _ => rfl) (k38 _ _ S O a2 c2 a1 c1 h2 h1) ?_)
    intro v105 a w106 χ107 hE hp hS
    replace hO := hO.mv hE rfl rfl
    replace h1 := h1.mv hE rfl
    replace h2 := h2.mv hE rfl
    clear hE
    obtain ⟨r108, hr⟩ : ∃ r, times_Against S O = r := ⟨_, rfl⟩
    replace hm := hm r108 hr
    rw [hr] at hp
    clear hr
    subst hp
    refine endP T hS (sp := []) (ks := [1, 2, 3, 7, 8]) (bs := [4]) (sy' := ⟨[(1, V (.slice a1 O.length c1)), (2, V (.slice a2 S.length c2)), (3, Pt 4 0), (7, I r108.1), (8, B r108.2)], [(4, (23, [I P.Ops, I P.States]))]⟩) (by kernel_rfl) ?_
    intro a hS
    refine regO ?_
    refine opsP T hS 2 (sp := []) (ks := [1, 3, 7, 8, 41, 42]) (bs := [4]) (sy' := ⟨[(1, V (.slice a1 O.length c1)), (3, Pt 4 0), (7, I r108.1), (8, B r108.2), (41, V (.slice a2 S.length c2)), (42, V (.slice a1 O.length c1))], [(4, (23, [I P.Ops, I P.States]))]⟩) (by kernel_rfl) ?_
    intro a hS
    refine op1 (call hS (by kernel_rfl) (by kernel_rfl) hb39 (by kernel_rfl) (fun _ _ => rfl) (k39 _ _ S O a2 c2 a1 c1 h2 h1) ?_)
    intro v109 a w110 χ111 hE hp hS
    replace hO := hO.mv hE rfl rfl
    replace h1 := h1.mv hE rfl
    replace h2 := h2.mv hE rfl
    clear hE
    obtain ⟨r112, hr⟩ : ∃ r, ref33_Against S O = r := ⟨_, rfl⟩
    replace hm := hm r112 hr
    rw [hr] at hp
    clear hr
    subst hp
    refine endP T hS (sp := []) (ks := [1, 3, 7, 8, 9, 10]) (bs := [4]) (sy' := ⟨[(1, V (.slice a1 O.length c1)), (3, Pt 4 0), (7, I r108.1), (8, B r108.2), (9, I r112.1), (10, B r112.2)], [(4, (23, [I P.Ops, I P.States]))]⟩) (by kernel_rfl) ?_
    intro a hS
    refine regO ?_
    refine opsP T hS 3 (sp := []) (ks := [1, 3, 7, 8, 9, 10, 48, 49]) (bs := [4]) (sy' := ⟨[(1, V (.slice a1 O.length c1)), (3, Pt 4 0), (7, I r108.1), (8, B r108.2), (9, I r112.1), (10, B r112.2), (48, I P.Ops), (49, V (.slice a1 O.length c1))], [(4, (23, [I P.Ops, I P.States]))]⟩) (by kernel_rfl) ?_
    intro a hS
    refine op1 (call hS (by kernel_rfl) (by kernel_rfl) hb40 (by kernel_rfl) (fun _ _ => rfl) (k40 _ _ P.Ops O a1 c1 h1) ?_)
    intro v113 a w114 χ115 hE hp hS
    replace hO := hO.mv hE rfl rfl
    replace h1 := h1.mv hE rfl
    clear hE
    obtain ⟨a117, c118, hp, h119⟩ := hp
    obtain ⟨r116, hr⟩ : ∃ r, times_Sort P.Ops O = r := ⟨_, rfl⟩
    replace hm := hm r116 hr
    rw [hr] at hp h119
    clear hr
    subst hp
    replace hm := hm (h119.sm (by kernel_rfl))
    refine endP T hS (sp := []) (ks := [1, 3, 7, 8, 9, 10, 11, 12]) (bs := [4]) (sy' := ⟨[(1, V (.slice a1 O.length c1)), (3, Pt 4 0), (7, I r108.1), (8, B r108.2), (9, I r112.1), (10, B r112.2), (11, V (.slice a117 r116.1.length c118)), (12, B r116.2)], [(4, (23, [I P.Ops, I P.States]))]⟩) (by kernel_rfl) ?_
    intro a hS
    refine regO ?_
    refine opsP T hS 3 (sp := []) (ks := [1, 3, 7, 8, 9, 10, 11, 12, 55, 56]) (bs := [4]) (sy' := ⟨[(1, V (.slice a1 O.length c1)), (3, Pt 4 0), (7, I r108.1), (8, B r108.2), (9, I r112.1), (10, B r112.2), (11, V (.slice a117 r116.1.length c118)), (12, B r116.2), (55, I P.Ops), (56, V (.slice a1 O.length c1))], [(4, (23, [I P.Ops, I P.States]))]⟩) (by kernel_rfl) ?_
    intro a hS
    refine op1 (call hS (by kernel_rfl) (by kernel_rfl) hb41 (by kernel_rfl) (fun _ _ => rfl) (k41 _ _ P.Ops O a1 c1 h1) ?_)
    intro v120 a w121 χ122 hE hp hS
    replace hO := hO.mv hE rfl rfl
    replace h1 := h1.mv hE rfl
    replace h119 := h119.mv hE rfl
    clear hE
    obtain ⟨a124, c125, hp, h126⟩ := hp
    obtain ⟨r123, hr⟩ : ∃ r, ref33_Sort P.Ops O = r := ⟨_, rfl⟩
    replace hm := hm r123 hr
    rw [hr] at hp h126
    clear hr
    subst hp
    replace hm := hm (h126.sm (by kernel_rfl))
    refine endP T hS (sp := []) (ks := [1, 3, 7, 8, 9, 10, 11, 12, 13, 14]) (bs := [4]) (sy' := ⟨[(1, V (.slice a1 O.length c1)), (3, Pt 4 0), (7, I r108.1), (8, B r108.2), (9, I r112.1), (10, B r112.2), (11, V (.slice a117 r116.1.length c118)), (12, B r116.2), (13, V (.slice a124 r123.1.length c125)), (14, B r123.2)], [(4, (23, [I P.Ops, I P.States]))]⟩) (by kernel_rfl) ?_
    intro a hS
    refine drawnS [4] mixed hS ?_
    intro w127 hS hE hD hH
    replace hO := hO.mv hE rfl rfl
    replace h1 := h1.mv hE rfl
    replace h119 := h119.mv hE rfl
    replace h126 := h126.mv hE rfl
    clear hE
    refine take T [0, 1, 3, 5, 7, 4, 6] [4] [7, 8, 9, 10, 11, 12, 13, 14, 60, 61, 64, 66, 67] hS (by kernel_rfl) (by kernel_rfl) (by kernel_rfl) hH (listed' := #[true, true, false, true, true, true, true, true, false, false, false, false, false, false, false, false, false, false, false, false, false, false, false, false, false, false, false, false, false, false, false, false, false, false]) (fuel := 27) (sy' := ⟨[(7, I r108.1), (8, B r108.2), (9, I r112.1), (10, B r112.2), (11, V (.slice a117 r116.1.length c118)), (12, B r116.2), (13, V (.slice a124 r123.1.length c125)), (14, B r123.2), (60, V (.agg #[.int .i64 P.Ops, .int .i64 P.States])), (61, V (.slice a1 O.length c1)), (64, I P.Ops), (66, I P.States), (67, V (.slice a1 O.length c1))], [(4, (23, [I P.Ops, I P.States]))]⟩) (by kernel_rfl) (by rfl) ?_
    intro a hS
    obtain ⟨hq, hm⟩ := hm
    refine only 2 (by kernel_rfl) (by rfl) (call hS (by kernel_rfl) (by kernel_rfl) hb42 (by kernel_rfl) (fun _ _ => rfl) (k42 _ _ P O a1 c1 hq h1) ?_)
    intro v128 a w129 χ130 hE hp hS
    clear hq
    replace hO := hO.mv hE rfl rfl
    replace hD := hD.ev hE rfl
    replace h1 := h1.mv hE rfl
    replace h119 := h119.mv hE rfl
    replace h126 := h126.mv hE rfl
    clear hE
    obtain ⟨a132, c133, hp, h134⟩ := hp
    obtain ⟨r131, hr⟩ : ∃ r, times_Clauses P O = r := ⟨_, rfl⟩
    replace hm := hm r131 hr
    rw [hr] at hp h134
    clear hr
    subst hp
    replace hm := hm (h134.sm (by kernel_rfl))
    refine andH (Hold.of hS (bks := [4]) (by kernel_rfl) hD) ?_
    intro hH
    obtain ⟨hq, hm⟩ := hm
    refine only 8 (by kernel_rfl) (by rfl) (call hS (by kernel_rfl) (by kernel_rfl) hb43 (by kernel_rfl) (fun _ _ => rfl) (k43 _ _ P.Ops P.States O a1 c1 hq h1) ?_)
    intro v135 a w136 χ137 hE hp hS
    clear hq
    replace hO := hO.mv hE rfl rfl
    replace hD := hD.ev hE rfl
    replace h1 := h1.mv hE rfl
    replace h119 := h119.mv hE rfl
    replace h126 := h126.mv hE rfl
    replace h134 := h134.mv hE rfl
    clear hE
    obtain ⟨a139, c140, hp, h141⟩ := hp
    obtain ⟨r138, hr⟩ : ∃ r, ref33_Clauses P.Ops P.States O = r := ⟨_, rfl⟩
    replace hm := hm r138 hr
    rw [hr] at hp h141
    clear hr
    subst hp
    replace hm := hm (h141.sm (by kernel_rfl))
    refine andH (Hold.of hS (bks := [4]) (by kernel_rfl) hD) ?_
    intro hH
    refine only 9 (by kernel_rfl) (by rfl) (call hS (by kernel_rfl) (by kernel_rfl) hb31 (by kernel_rfl) (fun _ _ => rfl) (k31 _ _ r131 r138 a132 c133 a139 c140 h134 h141) ?_)
    intro v142 a w143 χ144 hE hp hS
    replace hO := hO.mv hE rfl rfl
    replace hD := hD.ev hE rfl
    replace h1 := h1.mv hE rfl
    replace h119 := h119.mv hE rfl
    replace h126 := h126.mv hE rfl
    replace h134 := h134.mv hE rfl
    replace h141 := h141.mv hE rfl
    clear hE
    obtain ⟨r145, hr⟩ : ∃ r, ref04_SameRows r131 r138 = r := ⟨_, rfl⟩
    replace hm := hm r145 hr
    rw [hr] at hp
    clear hr
    subst hp
    refine andH (Hold.of hS (bks := [4]) (by kernel_rfl) hD) ?_
    intro hH
    refine take T [10] [4] [7, 8, 9, 10, 11, 12, 13, 14, 70] hS (by kernel_rfl) (by kernel_rfl) (by kernel_rfl) hH (listed' := #[true, true, true, true, true, true, true, true, true, true, true, false, false, false, false, false, false, false, false, false, false, false, false, false, false, false, false, false, false, false, false, false, false, false]) (fuel := 23) (sy' := ⟨[(7, I r108.1), (8, B r108.2), (9, I r112.1), (10, B r112.2), (11, V (.slice a117 r116.1.length c118)), (12, B r116.2), (13, V (.slice a124 r123.1.length c125)), (14, B r123.2), (70, B r145)], [(4, (23, [I P.Ops, I P.States]))]⟩) (by kernel_rfl) (by rfl) ?_
    intro a hS
    rcases Bool.eq_false_or_eq_true r145 with hb | hb
    · replace hS := hS.lit (t := 70) (by kernel_rfl) hb
      replace hm := hm.1 hb
      refine take T [11, 12, 13, 14, 15] [4] [8, 10, 11, 12, 13, 14, 75] hS (by kernel_rfl) (by kernel_rfl) (by kernel_rfl) hH (listed' := #[true, true, true, true, true, true, true, true, true, true, true, true, true, true, true, true, false, false, false, false, false, false, false, false, false, false, false, false, false, false, false, false, false, false]) (fuel := 18) (sy' := ⟨[(8, B r108.2), (10, B r112.2), (11, V (.slice a117 r116.1.length c118)), (12, B r116.2), (13, V (.slice a124 r123.1.length c125)), (14, B r123.2), (75, B (r108.1 == r112.1))], [(4, (23, [I P.Ops, I P.States]))]⟩) (by kernel_rfl) (by rfl) ?_
      intro a hS
      rcases Bool.eq_false_or_eq_true (r108.1 == r112.1) with hb | hb
      · replace hS := hS.lit (t := 75) (by kernel_rfl) hb
        replace hm := hm.1 hb
        refine take T [16, 17, 18, 19, 20] [4] [11, 12, 13, 14, 80] hS (by kernel_rfl) (by kernel_rfl) (by kernel_rfl) hH (listed' := #[true, true, true, true, true, true, true, true, true, true, true, true, true, true, true, true, true, true, true, true, true, false, false, false, false, false, false, false, false, false, false, false, false, false]) (fuel := 13) (sy' := ⟨[(11, V (.slice a117 r116.1.length c118)), (12, B r116.2), (13, V (.slice a124 r123.1.length c125)), (14, B r123.2), (80, B (r108.2 == r112.2))], [(4, (23, [I P.Ops, I P.States]))]⟩) (by kernel_rfl) (by rfl) ?_
        intro a hS
        rcases Bool.eq_false_or_eq_true (r108.2 == r112.2) with hb | hb
        · replace hS := hS.lit (t := 80) (by kernel_rfl) hb
          replace hm := hm.1 hb
          refine take T [21, 22] [4] [12, 14, 80, 81, 82] hS (by kernel_rfl) (by kernel_rfl) (by kernel_rfl) hH (listed' := #[true, true, true, true, true, true, true, true, true, true, true, true, true, true, true, true, true, true, true, true, true, true, true, false, false, false, false, false, false, false, false, false, false, false]) (fuel := 11) (sy' := ⟨[(12, B r116.2), (14, B r123.2), (80, B true), (81, V (.slice a117 r116.1.length c118)), (82, V (.slice a124 r123.1.length c125))], [(4, (23, [I P.Ops, I P.States]))]⟩) (by kernel_rfl) (by rfl) ?_
          intro a hS
          refine only 23 (by kernel_rfl) (by rfl) (call hS (by kernel_rfl) (by kernel_rfl) hb34 (by kernel_rfl) (fun _ _ => rfl) (k34 _ _ r116.1 r123.1 a117 c118 a124 c125 h119 h126) ?_)
          intro v146 a w147 χ148 hE hp hS
          replace hO := hO.mv hE rfl rfl
          replace hD := hD.ev hE rfl
          replace h1 := h1.mv hE rfl
          replace h119 := h119.mv hE rfl
          replace h126 := h126.mv hE rfl
          replace h134 := h134.mv hE rfl
          replace h141 := h141.mv hE rfl
          clear hE
          obtain ⟨r149, hr⟩ : ∃ r, ref01_SameInts r116.1 r123.1 = r := ⟨_, rfl⟩
          replace hm := hm r149 hr
          rw [hr] at hp
          clear hr
          subst hp
          refine andH (Hold.of hS (bks := [4]) (by kernel_rfl) hD) ?_
          intro hH
          refine take T [24, 25] [4] [12, 14, 85] hS (by kernel_rfl) (by kernel_rfl) (by kernel_rfl) hH (listed' := #[true, true, true, true, true, true, true, true, true, true, true, true, true, true, true, true, true, true, true, true, true, true, true, true, true, true, false, false, false, false, false, false, false, false]) (fuel := 8) (sy' := ⟨[(12, B r116.2), (14, B r123.2), (85, B r149)], [(4, (23, [I P.Ops, I P.States]))]⟩) (by kernel_rfl) (by rfl) ?_
          intro a hS
          rcases Bool.eq_false_or_eq_true r149 with hb | hb
          · replace hS := hS.lit (t := 85) (by kernel_rfl) hb
            replace hm := hm.1 hb
            refine take T [26, 27, 28, 29, 30] [4] [90] hS (by kernel_rfl) (by kernel_rfl) (by kernel_rfl) hH (listed' := #[true, true, true, true, true, true, true, true, true, true, true, true, true, true, true, true, true, true, true, true, true, true, true, true, true, true, true, true, true, true, true, false, false, false]) (fuel := 3) (sy' := ⟨[(90, B (r116.2 == r123.2))], [(4, (23, [I P.Ops, I P.States]))]⟩) (by kernel_rfl) (by rfl) ?_
            intro a hS
            rcases Bool.eq_false_or_eq_true (r116.2 == r123.2) with hb | hb
            · replace hS := hS.lit (t := 90) (by kernel_rfl) hb
              replace hm := hm.1 hb
              refine only 31 (by kernel_rfl) (by rfl) (call hS (by kernel_rfl) (by kernel_rfl) hb37 (by kernel_rfl) (fun _ _ => rfl) (k37 _ _) ?_)
              intro v150 a w151 χ152 hE hp hS
              replace hO := hO.mv hE rfl rfl
              replace hD := hD.ev hE rfl
              replace h1 := h1.mv hE rfl
              replace h119 := h119.mv hE rfl
              replace h126 := h126.mv hE rfl
              replace h134 := h134.mv hE rfl
              replace h141 := h141.mv hE rfl
              clear hE
              obtain ⟨r153, hr⟩ : ∃ r, law33_awake = r := ⟨_, rfl⟩
              replace hm := hm r153 hr
              rw [hr] at hp
              clear hr
              subst hp
              refine andH (Hold.of hS (bks := [4]) (by kernel_rfl) hD) ?_
              intro hH
              refine take T [32, 33] [4] [6] hS (by kernel_rfl) (by kernel_rfl) (by kernel_rfl) hH (listed' := #[true, true, true, true, true, true, true, true, true, true, true, true, true, true, true, true, true, true, true, true, true, true, true, true, true, true, true, true, true, true, true, true, true, true]) (fuel := 0) (sy' := ⟨[(6, B r153)], [(4, (23, [I P.Ops, I P.States]))]⟩) (by kernel_rfl) (by rfl) ?_
              intro a hS
              refine drawnDone (by kernel_rfl) ?_
              clear hD hH
              replace hS := hS.sel [6] [] (sy' := ⟨[(6, B r153)], []⟩) (by kernel_rfl)
              refine wret ?_
              exact fin T hS hO (fun c => c) rfl (r := [.bool r153]) (by kernel_rfl) (fun χ' hM hC => ⟨r153, hm, rfl⟩)
            · replace hS := hS.lit (t := 90) (by kernel_rfl) hb
              replace hm := hm.2 hb
              refine take T [31, 32, 33] [4] [6] hS (by kernel_rfl) (by kernel_rfl) (by kernel_rfl) hH (listed' := #[true, true, true, true, true, true, true, true, true, true, true, true, true, true, true, true, true, true, true, true, true, true, true, true, true, true, true, true, true, true, true, true, true, true]) (fuel := 0) (sy' := ⟨[(6, B false)], [(4, (23, [I P.Ops, I P.States]))]⟩) (by kernel_rfl) (by rfl) ?_
              intro a hS
              refine drawnDone (by kernel_rfl) ?_
              clear hD hH
              replace hS := hS.sel [6] [] (sy' := ⟨[(6, B false)], []⟩) (by kernel_rfl)
              refine wret ?_
              exact fin T hS hO (fun c => c) rfl (r := [.bool false]) (by kernel_rfl) (fun χ' hM hC => ⟨false, hm, rfl⟩)
          · replace hS := hS.lit (t := 85) (by kernel_rfl) hb
            replace hm := hm.2 hb
            refine take T [26, 27, 28, 29, 30, 31, 32, 33] [4] [6] hS (by kernel_rfl) (by kernel_rfl) (by kernel_rfl) hH (listed' := #[true, true, true, true, true, true, true, true, true, true, true, true, true, true, true, true, true, true, true, true, true, true, true, true, true, true, true, true, true, true, true, true, true, true]) (fuel := 0) (sy' := ⟨[(6, B false)], [(4, (23, [I P.Ops, I P.States]))]⟩) (by kernel_rfl) (by rfl) ?_
            intro a hS
            refine drawnDone (by kernel_rfl) ?_
            clear hD hH
            replace hS := hS.sel [6] [] (sy' := ⟨[(6, B false)], []⟩) (by kernel_rfl)
            refine wret ?_
            exact fin T hS hO (fun c => c) rfl (r := [.bool false]) (by kernel_rfl) (fun χ' hM hC => ⟨false, hm, rfl⟩)
        · replace hS := hS.lit (t := 80) (by kernel_rfl) hb
          replace hm := hm.2 hb
          refine take T [21, 22, 23, 24, 25, 26, 27, 28, 29, 30, 31, 32, 33] [4] [6] hS (by kernel_rfl) (by kernel_rfl) (by kernel_rfl) hH (listed' := #[true, true, true, true, true, true, true, true, true, true, true, true, true, true, true, true, true, true, true, true, true, true, true, true, true, true, true, true, true, true, true, true, true, true]) (fuel := 0) (sy' := ⟨[(6, B false)], [(4, (23, [I P.Ops, I P.States]))]⟩) (by kernel_rfl) (by rfl) ?_
          intro a hS
          refine drawnDone (by kernel_rfl) ?_
          clear hD hH
          replace hS := hS.sel [6] [] (sy' := ⟨[(6, B false)], []⟩) (by kernel_rfl)
          refine wret ?_
          exact fin T hS hO (fun c => c) rfl (r := [.bool false]) (by kernel_rfl) (fun χ' hM hC => ⟨false, hm, rfl⟩)
      · replace hS := hS.lit (t := 75) (by kernel_rfl) hb
        replace hm := hm.2 hb
        refine take T [16, 17, 18, 19, 20, 21, 22, 23, 24, 25, 26, 27, 28, 29, 30, 31, 32, 33] [4] [6] hS (by kernel_rfl) (by kernel_rfl) (by kernel_rfl) hH (listed' := #[true, true, true, true, true, true, true, true, true, true, true, true, true, true, true, true, true, true, true, true, true, true, true, true, true, true, true, true, true, true, true, true, true, true]) (fuel := 0) (sy' := ⟨[(6, B false)], [(4, (23, [I P.Ops, I P.States]))]⟩) (by kernel_rfl) (by rfl) ?_
        intro a hS
        refine drawnDone (by kernel_rfl) ?_
        clear hD hH
        replace hS := hS.sel [6] [] (sy' := ⟨[(6, B false)], []⟩) (by kernel_rfl)
        refine wret ?_
        exact fin T hS hO (fun c => c) rfl (r := [.bool false]) (by kernel_rfl) (fun χ' hM hC => ⟨false, hm, rfl⟩)
    · replace hS := hS.lit (t := 70) (by kernel_rfl) hb
      replace hm := hm.2 hb
      refine take T [11, 12, 13, 14, 15, 16, 17, 18, 19, 20, 21, 22, 23, 24, 25, 26, 27, 28, 29, 30, 31, 32, 33] [4] [6] hS (by kernel_rfl) (by kernel_rfl) (by kernel_rfl) hH (listed' := #[true, true, true, true, true, true, true, true, true, true, true, true, true, true, true, true, true, true, true, true, true, true, true, true, true, true, true, true, true, true, true, true, true, true]) (fuel := 0) (sy' := ⟨[(6, B false)], [(4, (23, [I P.Ops, I P.States]))]⟩) (by kernel_rfl) (by rfl) ?_
      intro a hS
      refine drawnDone (by kernel_rfl) ?_
      clear hD hH
      replace hS := hS.sel [6] [] (sy' := ⟨[(6, B false)], []⟩) (by kernel_rfl)
      refine wret ?_
      exact fin T hS hO (fun c => c) rfl (r := [.bool false]) (by kernel_rfl) (fun χ' hM hC => ⟨false, hm, rfl⟩)
/-- replevin/replevinlaw33.TimesCounts -/
theorem W10 (k21 : S21) (k37 : S37) (k38 : S38) (k40 : S40) (k42 : S42) (k44 : S44) (w0 : World) (χ0 : Nat → Nat) (P : Numbering_Size) (O : List (Int × Int)) (a1 : Option Addr) (c1 : Nat) (Q : Bool → Prop) (hm : VC10 P O Q) (h1 : RS tP2 w0 χ0 a1 O c1) :
    Ret Try.prog 10 #[.agg #[.int .i64 P.Ops, .int .i64 P.States], .slice a1 O.length c1] xnone w0 χ0 (fun w χ' v => ∃ r, Q r ∧ v = .bool r) := by
  unfold VC10 at hm
  replace hm := hm (h1.sm (by kernel_rfl))
  refine enter Try.func10 rfl (vals := [.agg #[.int .i64 P.Ops, .int .i64 P.States], .slice a1 O.length c1]) (by kernel_rfl) ?_
  intro ρ a hS hO hM
  replace h1 := h1.m0 hM
  clear hM
  refine regM T hS (sp := []) (ks := [1, 2]) (bs := [3]) (sy' := ⟨[(1, V (.slice a1 O.length c1)), (2, Pt 3 0)], [(3, (23, [I P.Ops, I P.States]))]⟩) (by kernel_rfl) ?_
  intro ρ a w168 χ169 hS hE hr
  replace hO := hO.mv hE rfl rfl
  replace h1 := h1.mv hE rfl
  clear hE hr
  refine wseq ?_
  refine wcut (fun a w => ∃ (ρ : Nat → Nat) (χ : Nat → Nat) (x_102 : Bool), VC10_J1 P O Q x_102 ∧ St Try.f10.ntmps ⟨[(1, V (.slice a1 O.length c1)), (2, Pt 3 0), (25, B x_102)], [(3, (23, [I P.Ops, I P.States]))]⟩ ρ a w χ ∧ Old w0 χ0 w χ ∧ RS tP2 w χ a1 O c1) ?_ ?_
  · refine region ?_
    refine opsP T hS 4 (sp := []) (ks := [1, 2, 16]) (bs := [3]) (sy' := ⟨[(1, V (.slice a1 O.length c1)), (2, Pt 3 0), (16, B (decide (P.Ops > 10)))], [(3, (23, [I P.Ops, I P.States]))]⟩) (by kernel_rfl) ?_
    intro a hS
    rcases Bool.eq_false_or_eq_true (decide (P.Ops > 10)) with hb | hb
    · replace hS := hS.lit (t := 16) (by kernel_rfl) hb
      replace hm := hm.1 hb
      refine endP T hS (sp := []) (ks := [1, 2, 25]) (bs := [3]) (sy' := ⟨[(1, V (.slice a1 O.length c1)), (2, Pt 3 0), (25, B true)], [(3, (23, [I P.Ops, I P.States]))]⟩) (by kernel_rfl) ?_
      intro a hS
      exact ⟨ρ, _, true, hm, hS.sel [1, 2, 25] [3] (by kernel_rfl), hO, h1⟩
    · replace hS := hS.lit (t := 16) (by kernel_rfl) hb
      replace hm := hm.2 hb
      refine opsP T hS 1 (sp := []) (ks := [1, 2, 16, 17]) (bs := [3]) (sy' := ⟨[(1, V (.slice a1 O.length c1)), (2, Pt 3 0), (16, B false), (17, V (.agg #[.int .i64 P.Ops, .int .i64 P.States]))], [(3, (23, [I P.Ops, I P.States]))]⟩) (by kernel_rfl) ?_
      intro a hS
      refine op1 (call hS (by kernel_rfl) (by kernel_rfl) hb21 (by kernel_rfl) (fun _ _ => rfl) (k21 _ _ P) ?_)
      intro v162 a w163 χ164 hE hp hS
      replace hO := hO.mv hE rfl rfl
      replace h1 := h1.mv hE rfl
      clear hE
      obtain ⟨r165, hr⟩ : ∃ r, numbering_Check P = r := ⟨_, rfl⟩
      replace hm := hm r165 hr
      rw [hr] at hp
      clear hr
      subst hp
      refine endP T hS (sp := [21]) (ks := [1, 2, 25]) (bs := [3]) (sy' := ⟨[(1, V (.slice a1 O.length c1)), (2, Pt 3 0), (25, B ((r165 != 0) || (decide (((O.length : Nat) : Int) > 40))))], [(3, (23, [I P.Ops, I P.States]))]⟩) (by kernel_rfl) ?_
      intro a hS
      exact ⟨ρ, _, ((r165 != 0) || (decide (((O.length : Nat) : Int) > 40))), hm, hS.sel [1, 2, 25] [3] (by kernel_rfl), hO, h1⟩
  · rintro a w167 ⟨ρ, χ166, x_102, hm, hS, hO, h101⟩
    unfold VC10_J1 at hm
    refine wcond hS (b := x_102) (by kernel_rfl) (fun hb => ?_) (fun hb => ?_)
    · replace hm := hm.1 hb
      refine regO ?_
      refine op1 (call hS (by kernel_rfl) (by kernel_rfl) hb37 (by kernel_rfl) (fun _ _ => rfl) (k37 _ _) ?_)
      intro v103 a w104 χ105 hE hp hS
      replace hO := hO.mv hE rfl rfl
      replace h101 := h101.mv hE rfl
      clear hE
      obtain ⟨r106, hr⟩ : ∃ r, law33_awake = r := ⟨_, rfl⟩
      replace hm := hm r106 hr
      rw [hr] at hp
      clear hr
      subst hp
      refine endP T hS (sp := []) (ks := [4]) (bs := []) (sy' := ⟨[(4, B r106)], []⟩) (by kernel_rfl) ?_
      intro a hS
      refine wret ?_
      exact fin T hS hO (fun c => c) rfl (r := [.bool r106]) (by kernel_rfl) (fun χ' hM hC => ⟨r106, hm, rfl⟩)
    · replace hm := hm.2 hb
      refine wskip ?_
      refine regP T hS (sp := []) (ks := [1, 2, 5]) (bs := [3]) (sy' := ⟨[(1, V (.slice a1 O.length c1)), (2, Pt 3 0), (5, I 0)], [(3, (23, [I P.Ops, I P.States]))]⟩) (by kernel_rfl) ?_
      intro a hS
      refine wcut (fun a w => ∃ (ρ : Nat → Nat) (χ : Nat → Nat) (t_108 : Int), VC10_J2 P O Q t_108 ∧ St Try.f10.ntmps ⟨[(1, V (.slice a1 O.length c1)), (2, Pt 3 0), (5, I t_108)], [(3, (23, [I P.Ops, I P.States]))]⟩ ρ a w χ ∧ Old w0 χ0 w χ ∧ RS tP2 w χ a1 O c1) ?_ ?_
      · refine regP T hS (sp := []) (ks := [1, 2, 5, 6]) (bs := [3]) (sy' := ⟨[(1, V (.slice a1 O.length c1)), (2, Pt 3 0), (5, I 0), (6, I 0)], [(3, (23, [I P.Ops, I P.States]))]⟩) (by kernel_rfl) ?_
        intro a hS
        refine wblock ?_
        obtain ⟨I2, μ2, hm0, hm⟩ := hm
        refine wloop (σ := Int × Int) (fun s a w => ∃ (ρ : Nat → Nat) (χ : Nat → Nat), I2 s.1 s.2 ∧ St Try.f10.ntmps ⟨[(1, V (.slice a1 O.length c1)), (2, Pt 3 0), (5, I s.1), (6, I s.2)], [(3, (23, [I P.Ops, I P.States]))]⟩ ρ a w χ ∧ Old w0 χ0 w χ ∧ RS tP2 w χ a1 O c1) (fun s => μ2 s.1 s.2) (⟨0, 0⟩) ?_ ?_
        · exact ⟨ρ, _, hm0, hS.sel [1, 2, 5, 6] [3] (by kernel_rfl), hO, h101⟩
        · rintro ⟨t_147, o_148⟩ a w159 ⟨ρ, χ158, hI, hS, hO, h146⟩
          replace hm := hm t_147 o_148 hI
          clear hI hm0
          refine wseq ?_
          refine regP T hS (sp := []) (ks := [1, 2, 5, 6, 30]) (bs := [3]) (sy' := ⟨[(1, V (.slice a1 O.length c1)), (2, Pt 3 0), (5, I t_147), (6, I o_148), (30, B (decide (o_148 < ((O.length : Nat) : Int))))], [(3, (23, [I P.Ops, I P.States]))]⟩) (by kernel_rfl) ?_
          intro a hS
          refine wcond hS (b := decide (o_148 < ((O.length : Nat) : Int))) (by kernel_rfl) (fun hb => ?_) (fun hb => ?_)
          · replace hm := hm.1 hb
            refine wskip ?_
            refine wcut (fun a w => ∃ (ρ : Nat → Nat) (χ : Nat → Nat) (t_150 : Int), VC10_J4 I2 μ2 t_147 o_148 t_150 ∧ St Try.f10.ntmps ⟨[(1, V (.slice a1 O.length c1)), (2, Pt 3 0), (5, I t_150), (6, I o_148)], [(3, (23, [I P.Ops, I P.States]))]⟩ ρ a w χ ∧ Old w0 χ0 w χ ∧ RS tP2 w χ a1 O c1) ?_ ?_
            · refine wblock ?_
              refine regO ?_
              refine opsP T hS 2 (sp := []) (ks := [1, 2, 5, 6, 33, 34]) (bs := [3]) (sy' := ⟨[(1, V (.slice a1 O.length c1)), (2, Pt 3 0), (5, I t_147), (6, I o_148), (33, V (.slice a1 O.length c1)), (34, I o_148)], [(3, (23, [I P.Ops, I P.States]))]⟩) (by kernel_rfl) ?_
              intro a hS
              obtain ⟨hq, hm⟩ := hm
              refine op1 (index (e := 68) (k := .i64) T hS (by kernel_rfl) (by kernel_rfl) (by kernel_rfl) (by kernel_rfl) h146 (by kernel_rfl) (by kernel_rfl) hq.1 hq.2 ?_)
              intro A151 a h152 hS
              clear hq
              refine op1 (loadA T hS (by kernel_rfl) (by kernel_rfl) (by kernel_rfl) h152 (by kernel_rfl) (by kernel_rfl) ?_)
              intro v153 a hv hS
              subst hv
              refine endM T hS (sp := []) (ks := [1, 2, 5, 6, 7]) (bs := [3, 8]) (sy' := ⟨[(1, V (.slice a1 O.length c1)), (2, Pt 3 0), (5, I t_147), (6, I o_148), (7, Pt 8 0)], [(3, (23, [I P.Ops, I P.States])), (8, (68, [I ((gi O o_148).1), I ((gi O o_148).2)]))]⟩) (by kernel_rfl) ?_
              intro ρ a w154 χ155 hS hE hr
              replace hO := hO.mv hE rfl rfl
              replace h146 := h146.mv hE rfl
              clear hE hr
              refine regP T hS (sp := [42, 47, 52, 59]) (ks := [1, 2, 5, 6, 65]) (bs := [3]) (sy' := ⟨[(1, V (.slice a1 O.length c1)), (2, Pt 3 0), (5, I t_147), (6, I o_148), (65, B (((((((gi O o_148).1) != ((gi O o_148).2)) && (decide (((gi O o_148).1) ≥ 0))) && (decide (((gi O o_148).2) ≥ 0))) && (decide (((gi O o_148).1) < P.Ops))) && (decide (((gi O o_148).2) < P.Ops))))], [(3, (23, [I P.Ops, I P.States]))]⟩) (by kernel_rfl) ?_
              intro a hS
              refine wcond hS (b := (((((((gi O o_148).1) != ((gi O o_148).2)) && (decide (((gi O o_148).1) ≥ 0))) && (decide (((gi O o_148).2) ≥ 0))) && (decide (((gi O o_148).1) < P.Ops))) && (decide (((gi O o_148).2) < P.Ops)))) (by kernel_rfl) (fun hb => ?_) (fun hb => ?_)
              · replace hm := hm.1 hb
                refine region (endP T hS (sp := []) (ks := [1, 2, 5, 6]) (bs := [3]) (sy' := ⟨[(1, V (.slice a1 O.length c1)), (2, Pt 3 0), (5, I (IntKind.i64.wrap (t_147 + 1))), (6, I o_148)], [(3, (23, [I P.Ops, I P.States]))]⟩) (by kernel_rfl) ?_)
                intro a hS
                exact ⟨ρ, _, IntKind.i64.wrap (t_147 + 1), hm, hS.sel [1, 2, 5, 6] [3] (by kernel_rfl), hO, h146⟩
              · replace hm := hm.2 hb
                refine wskip ?_
                exact ⟨ρ, _, t_147, hm, hS.sel [1, 2, 5, 6] [3] (by kernel_rfl), hO, h146⟩
            · rintro a w157 ⟨ρ, χ156, t_150, hm, hS, hO, h149⟩
              unfold VC10_J4 at hm
              refine region (endP T hS (sp := []) (ks := [1, 2, 5, 6]) (bs := [3]) (sy' := ⟨[(1, V (.slice a1 O.length c1)), (2, Pt 3 0), (5, I t_150), (6, I (IntKind.i64.wrap (o_148 + 1)))], [(3, (23, [I P.Ops, I P.States]))]⟩) (by kernel_rfl) ?_)
              intro a hS
              exact ⟨⟨t_150, IntKind.i64.wrap (o_148 + 1)⟩, ⟨ρ, _, hm.1, hS.sel [1, 2, 5, 6] [3] (by kernel_rfl), hO, h149⟩, hm.2⟩
          · replace hm := hm.2 hb
            refine wexit (by rfl) ?_
            exact ⟨ρ, _, t_147, hm, hS.sel [1, 2, 5] [3] (by kernel_rfl), hO, h146⟩
      · rintro a w161 ⟨ρ, χ160, t_108, hm, hS, hO, h107⟩
        unfold VC10_J2 at hm
        refine wseq ?_
        refine drawnS [3] mixed hS ?_
        intro w109 hS hE hD hH
        replace hO := hO.mv hE rfl rfl
        replace h107 := h107.mv hE rfl
        clear hE
        refine take T [0, 1, 4, 5, 8, 6, 9, 7, 10, 11] [3] [1, 2, 5, 68, 69, 79] hS (by kernel_rfl) (by kernel_rfl) (by kernel_rfl) hH (listed' := #[true, true, false, false, true, true, true, true, true, true, true, true, false, false]) (fuel := 4) (sy' := ⟨[(1, V (.slice a1 O.length c1)), (2, Pt 3 0), (5, I t_108), (68, V (.agg #[.int .i64 P.Ops, .int .i64 P.States])), (69, V (.slice a1 O.length c1)), (79, I (IntKind.i64.wrap ((IntKind.i64.wrap (t_108 * P.Ops)) * (IntKind.i64.wrap (P.Ops - 1)))))], [(3, (23, [I P.Ops, I P.States]))]⟩) (by kernel_rfl) (by rfl) ?_
        intro a hS
        refine dquo (k := .i64) (p := IntKind.i64.wrap ((IntKind.i64.wrap (t_108 * P.Ops)) * (IntKind.i64.wrap (P.Ops - 1)))) (q := 2) 12 hS (by kernel_rfl) (by kernel_rfl) (by kernel_rfl) (by rfl) (by kernel_rfl) hH (by kernel_rfl) (by kernel_rfl) (by decide) ?_
        intro a hS
        obtain ⟨hq, hm⟩ := hm
        refine only 2 (by kernel_rfl) (by rfl) (call hS (by kernel_rfl) (by kernel_rfl) hb42 (by kernel_rfl) (fun _ _ => rfl) (k42 _ _ P O a1 c1 hq h107) ?_)
        intro v110 a w111 χ112 hE hp hS
        clear hq
        replace hO := hO.mv hE rfl rfl
        replace hD := hD.ev hE rfl
        replace h107 := h107.mv hE rfl
        clear hE
        obtain ⟨a114, c115, hp, h116⟩ := hp
        obtain ⟨r113, hr⟩ : ∃ r, times_Clauses P O = r := ⟨_, rfl⟩
        replace hm := hm r113 hr
        rw [hr] at hp h116
        clear hr
        subst hp
        replace hm := hm (h116.sm (by kernel_rfl))
        refine andH (Hold.of hS (bks := [3]) (by kernel_rfl) hD) ?_
        intro hH
        refine take T [3, 13] [3] [1, 2, 5, 81] hS (by kernel_rfl) (by kernel_rfl) (by kernel_rfl) hH (listed' := #[true, true, true, true, true, true, true, true, true, true, true, true, true, true]) (fuel := 0) (sy' := ⟨[(1, V (.slice a1 O.length c1)), (2, Pt 3 0), (5, I t_108), (81, B (((r113.length : Nat) : Int) != (IntKind.i64.wrap (((IntKind.i64.wrap ((IntKind.i64.wrap (t_108 * P.Ops)) * (IntKind.i64.wrap (P.Ops - 1))))).tdiv 2))))], [(3, (23, [I P.Ops, I P.States]))]⟩) (by kernel_rfl) (by rfl) ?_
        intro a hS
        refine drawnDone (by kernel_rfl) ?_
        clear hD hH
        replace hS := hS.sel [1, 2, 5, 81] [3] (sy' := ⟨[(1, V (.slice a1 O.length c1)), (2, Pt 3 0), (5, I t_108), (81, B (((r113.length : Nat) : Int) != (IntKind.i64.wrap (((IntKind.i64.wrap ((IntKind.i64.wrap (t_108 * P.Ops)) * (IntKind.i64.wrap (P.Ops - 1))))).tdiv 2))))], [(3, (23, [I P.Ops, I P.States]))]⟩) (by kernel_rfl)
        refine wcond hS (b := (((r113.length : Nat) : Int) != (IntKind.i64.wrap (((IntKind.i64.wrap ((IntKind.i64.wrap (t_108 * P.Ops)) * (IntKind.i64.wrap (P.Ops - 1))))).tdiv 2)))) (by kernel_rfl) (fun hb => ?_) (fun hb => ?_)
        · replace hm := hm.1 hb
          refine regP T hS (sp := []) (ks := [4]) (bs := []) (sy' := ⟨[(4, B false)], []⟩) (by kernel_rfl) ?_
          intro a hS
          refine wret ?_
          exact fin T hS hO (fun c => c) rfl (r := [.bool false]) (by kernel_rfl) (fun χ' hM hC => ⟨false, hm, rfl⟩)
        · replace hm := hm.2 hb
          refine wskip ?_
          refine regO ?_
          refine opsP T hS 3 (sp := []) (ks := [1, 2, 5, 84, 85]) (bs := [3]) (sy' := ⟨[(1, V (.slice a1 O.length c1)), (2, Pt 3 0), (5, I t_108), (84, I P.Ops), (85, V (.slice a1 O.length c1))], [(3, (23, [I P.Ops, I P.States]))]⟩) (by kernel_rfl) ?_
          intro a hS
          refine op1 (call hS (by kernel_rfl) (by kernel_rfl) hb40 (by kernel_rfl) (fun _ _ => rfl) (k40 _ _ P.Ops O a1 c1 h107) ?_)
          intro v117 a w118 χ119 hE hp hS
          replace hO := hO.mv hE rfl rfl
          replace h107 := h107.mv hE rfl
          clear hE
          obtain ⟨a121, c122, hp, h123⟩ := hp
          obtain ⟨r120, hr⟩ : ∃ r, times_Sort P.Ops O = r := ⟨_, rfl⟩
          replace hm := hm r120 hr
          rw [hr] at hp h123
          clear hr
          subst hp
          replace hm := hm (h123.sm (by kernel_rfl))
          refine endP T hS (sp := []) (ks := [1, 2, 5, 8, 9]) (bs := [3]) (sy' := ⟨[(1, V (.slice a1 O.length c1)), (2, Pt 3 0), (5, I t_108), (8, V (.slice a121 r120.1.length c122)), (9, B r120.2)], [(3, (23, [I P.Ops, I P.States]))]⟩) (by kernel_rfl) ?_
          intro a hS
          refine wseq ?_
          refine regP T hS (sp := []) (ks := [1, 2, 5, 8, 90]) (bs := [3]) (sy' := ⟨[(1, V (.slice a1 O.length c1)), (2, Pt 3 0), (5, I t_108), (8, V (.slice a121 r120.1.length c122)), (90, B (!r120.2))], [(3, (23, [I P.Ops, I P.States]))]⟩) (by kernel_rfl) ?_
          intro a hS
          refine wcond hS (b := (!r120.2)) (by kernel_rfl) (fun hb => ?_) (fun hb => ?_)
          · replace hm := hm.1 hb
            refine regO ?_
            refine opsP T hS 3 (sp := []) (ks := [93]) (bs := []) (sy' := ⟨[(93, B (decide (t_108 > 1)))], []⟩) (by kernel_rfl) ?_
            intro a hS
            rcases Bool.eq_false_or_eq_true (decide (t_108 > 1)) with hb | hb
            · replace hS := hS.lit (t := 93) (by kernel_rfl) hb
              replace hm := hm.1 hb
              refine op1 (call hS (by kernel_rfl) (by kernel_rfl) hb37 (by kernel_rfl) (fun _ _ => rfl) (k37 _ _) ?_)
              intro v124 a w125 χ126 hE hp hS
              replace hO := hO.mv hE rfl rfl
              clear hE
              obtain ⟨r127, hr⟩ : ∃ r, law33_awake = r := ⟨_, rfl⟩
              replace hm := hm r127 hr
              rw [hr] at hp
              clear hr
              subst hp
              refine endP T hS (sp := []) (ks := [4]) (bs := []) (sy' := ⟨[(4, B r127)], []⟩) (by kernel_rfl) ?_
              intro a hS
              refine wret ?_
              exact fin T hS hO (fun c => c) rfl (r := [.bool r127]) (by kernel_rfl) (fun χ' hM hC => ⟨r127, hm, rfl⟩)
            · replace hS := hS.lit (t := 93) (by kernel_rfl) hb
              replace hm := hm.2 hb
              refine endP T hS (sp := []) (ks := [4]) (bs := []) (sy' := ⟨[(4, B false)], []⟩) (by kernel_rfl) ?_
              intro a hS
              refine wret ?_
              exact fin T hS hO (fun c => c) rfl (r := [.bool false]) (by kernel_rfl) (fun χ' hM hC => ⟨false, hm, rfl⟩)
          · replace hm := hm.2 hb
            refine wskip ?_
            refine regO ?_
            refine opsP T hS 2 (sp := []) (ks := [2, 8, 97, 98]) (bs := [3]) (sy' := ⟨[(2, Pt 3 0), (8, V (.slice a121 r120.1.length c122)), (97, V (.slice a121 r120.1.length c122)), (98, V (.slice a1 O.length c1))], [(3, (23, [I P.Ops, I P.States]))]⟩) (by kernel_rfl) ?_
            intro a hS
            refine op1 (call hS (by kernel_rfl) (by kernel_rfl) hb38 (by kernel_rfl) (fun _ _ => rfl) (k38 _ _ r120.1 O a121 c122 a1 c1 h123 h107) ?_)
            intro v128 a w129 χ130 hE hp hS
            replace hO := hO.mv hE rfl rfl
            replace h107 := h107.mv hE rfl
            replace h123 := h123.mv hE rfl
            clear hE
            obtain ⟨r131, hr⟩ : ∃ r, times_Against r120.1 O = r := ⟨_, rfl⟩
            replace hm := hm r131 hr
            rw [hr] at hp
            clear hr
            subst hp
            refine endP T hS (sp := []) (ks := [2, 8, 11]) (bs := [3]) (sy' := ⟨[(2, Pt 3 0), (8, V (.slice a121 r120.1.length c122)), (11, B r131.2)], [(3, (23, [I P.Ops, I P.States]))]⟩) (by kernel_rfl) ?_
            intro a hS
            refine wseq ?_
            refine regP T hS (sp := [104]) (ks := [2, 8, 110]) (bs := [3]) (sy' := ⟨[(2, Pt 3 0), (8, V (.slice a121 r120.1.length c122)), (110, B ((!r131.2) || (((r120.1.length : Nat) : Int) != P.Ops)))], [(3, (23, [I P.Ops, I P.States]))]⟩) (by kernel_rfl) ?_
            intro a hS
            refine wcond hS (b := ((!r131.2) || (((r120.1.length : Nat) : Int) != P.Ops))) (by kernel_rfl) (fun hb => ?_) (fun hb => ?_)
            · replace hm := hm.1 hb
              refine regP T hS (sp := []) (ks := [4]) (bs := []) (sy' := ⟨[(4, B false)], []⟩) (by kernel_rfl) ?_
              intro a hS
              refine wret ?_
              exact fin T hS hO (fun c => c) rfl (r := [.bool false]) (by kernel_rfl) (fun χ' hM hC => ⟨false, hm, rfl⟩)
            · replace hm := hm.2 hb
              refine wskip ?_
              refine wcut (fun a w => ∃ (ρ : Nat → Nat) (χ : Nat → Nat), VC10_J3 Q ∧ St Try.f10.ntmps ⟨[], []⟩ ρ a w χ ∧ Old w0 χ0 w χ) ?_ ?_
              · refine regP T hS (sp := []) (ks := [2, 8, 12]) (bs := [3]) (sy' := ⟨[(2, Pt 3 0), (8, V (.slice a121 r120.1.length c122)), (12, I 0)], [(3, (23, [I P.Ops, I P.States]))]⟩) (by kernel_rfl) ?_
                intro a hS
                refine wblock ?_
                obtain ⟨I1, μ1, hm0, hm⟩ := hm
                refine wloop (σ := Int) (fun s a w => ∃ (ρ : Nat → Nat) (χ : Nat → Nat), I1 s ∧ St Try.f10.ntmps ⟨[(2, Pt 3 0), (8, V (.slice a121 r120.1.length c122)), (12, I s)], [(3, (23, [I P.Ops, I P.States]))]⟩ ρ a w χ ∧ Old w0 χ0 w χ ∧ RS tI w χ a121 r120.1 c122) (fun s => μ1 s) (0) ?_ ?_
                · exact ⟨ρ, _, hm0, hS.sel [2, 8, 12] [3] (by kernel_rfl), hO, h123⟩
                · rintro x_137 a w143 ⟨ρ, χ142, hI, hS, hO, h136⟩
                  replace hm := hm x_137 hI
                  clear hI hm0
                  refine wseq ?_
                  refine regP T hS (sp := []) (ks := [2, 8, 12, 114]) (bs := [3]) (sy' := ⟨[(2, Pt 3 0), (8, V (.slice a121 r120.1.length c122)), (12, I x_137), (114, B (decide (x_137 < P.Ops)))], [(3, (23, [I P.Ops, I P.States]))]⟩) (by kernel_rfl) ?_
                  intro a hS
                  refine wcond hS (b := decide (x_137 < P.Ops)) (by kernel_rfl) (fun hb => ?_) (fun hb => ?_)
                  · replace hm := hm.1 hb
                    refine wskip ?_
                    refine wseq ?_
                    refine wblock ?_
                    refine regO ?_
                    refine opsP T hS 2 (sp := []) (ks := [2, 8, 12, 117, 118]) (bs := [3]) (sy' := ⟨[(2, Pt 3 0), (8, V (.slice a121 r120.1.length c122)), (12, I x_137), (117, V (.slice a121 r120.1.length c122)), (118, I x_137)], [(3, (23, [I P.Ops, I P.States]))]⟩) (by kernel_rfl) ?_
                    intro a hS
                    refine op1 (call hS (by kernel_rfl) (by kernel_rfl) hb44 (by kernel_rfl) (fun _ _ => rfl) (k44 _ _ r120.1 x_137 a121 c122 h136) ?_)
                    intro v138 a w139 χ140 hE hp hS
                    replace hO := hO.mv hE rfl rfl
                    replace h136 := h136.mv hE rfl
                    clear hE
                    obtain ⟨r141, hr⟩ : ∃ r, ref33_Place r120.1 x_137 = r := ⟨_, rfl⟩
                    replace hm := hm r141 hr
                    rw [hr] at hp
                    clear hr
                    subst hp
                    refine endP T hS (sp := []) (ks := [2, 8, 12, 120]) (bs := [3]) (sy' := ⟨[(2, Pt 3 0), (8, V (.slice a121 r120.1.length c122)), (12, I x_137), (120, B (decide (r141 < 0)))], [(3, (23, [I P.Ops, I P.States]))]⟩) (by kernel_rfl) ?_
                    intro a hS
                    refine wcond hS (b := decide (r141 < 0)) (by kernel_rfl) (fun hb => ?_) (fun hb => ?_)
                    · replace hm := hm.1 hb
                      refine regP T hS (sp := []) (ks := [4]) (bs := []) (sy' := ⟨[(4, B false)], []⟩) (by kernel_rfl) ?_
                      intro a hS
                      refine wret ?_
                      exact fin T hS hO (fun c => c) rfl (r := [.bool false]) (by kernel_rfl) (fun χ' hM hC => ⟨false, hm, rfl⟩)
                    · replace hm := hm.2 hb
                      refine wskip ?_
                      refine region (endP T hS (sp := []) (ks := [2, 8, 12]) (bs := [3]) (sy' := ⟨[(2, Pt 3 0), (8, V (.slice a121 r120.1.length c122)), (12, I (IntKind.i64.wrap (x_137 + 1)))], [(3, (23, [I P.Ops, I P.States]))]⟩) (by kernel_rfl) ?_)
                      intro a hS
                      exact ⟨IntKind.i64.wrap (x_137 + 1), ⟨ρ, _, hm.1, hS.sel [2, 8, 12] [3] (by kernel_rfl), hO, h136⟩, hm.2⟩
                  · replace hm := hm.2 hb
                    refine wexit (by rfl) ?_
                    exact ⟨ρ, _, hm, hS.sel [] [] (by kernel_rfl), hO⟩
              · rintro a w145 ⟨ρ, χ144, hm, hS, hO⟩
                unfold VC10_J3 at hm
                refine regO ?_
                refine op1 (call hS (by kernel_rfl) (by kernel_rfl) hb37 (by kernel_rfl) (fun _ _ => rfl) (k37 _ _) ?_)
                intro v132 a w133 χ134 hE hp hS
                replace hO := hO.mv hE rfl rfl
                clear hE
                obtain ⟨r135, hr⟩ : ∃ r, law33_awake = r := ⟨_, rfl⟩
                replace hm := hm r135 hr
                rw [hr] at hp
                clear hr
                subst hp
                refine endP T hS (sp := []) (ks := [4]) (bs := []) (sy' := ⟨[(4, B r135)], []⟩) (by kernel_rfl) ?_
                intro a hS
                refine wret ?_
                exact fin T hS hO (fun c => c) rfl (r := [.bool r135]) (by kernel_rfl) (fun χ' hM hC => ⟨r135, hm, rfl⟩)
/-- replevin/replevinlaw33.TimesOrders -/
theorem W11 (k21 : S21) (k36 : S36) (k37 : S37) (k38 : S38) (k42 : S42) (k45 : S45) (w0 : World) (χ0 : Nat → Nat) (s_ : Numbering_Size) (pairs : List (Int × Int)) (order : List Int) (a1 : Option Addr) (c1 : Nat) (a2 : Option Addr) (c2 : Nat) (Q : Bool → Prop) (hm : VC11 s_ pairs order Q) (h1 : RS tP2 w0 χ0 a1 pairs c1) (h2 : RS tI w0 χ0 a2 order c2) :
    Ret Try.prog 11 #[.agg #[.int .i64 s_.Ops, .int .i64 s_.States], .slice a1 pairs.length c1, .slice a2 order.length c2] xnone w0 χ0 (fun w χ' v => ∃ r, Q r ∧ v = .bool r) := by
  unfold VC11 at hm
  replace hm := hm (h1.sm (by kernel_rfl))
  replace hm := hm (h2.sm (by kernel_rfl))
  refine enter Try.func11 rfl (vals := [.agg #[.int .i64 s_.Ops, .int .i64 s_.States], .slice a1 pairs.length c1, .slice a2 order.length c2]) (by kernel_rfl) ?_
  intro ρ a hS hO hM
  replace h1 := h1.m0 hM
  replace h2 := h2.m0 hM
  clear hM
  refine regM T hS (sp := []) (ks := [1, 2, 3]) (bs := [4]) (sy' := ⟨[(1, V (.slice a1 pairs.length c1)), (2, V (.slice a2 order.length c2)), (3, Pt 4 0)], [(4, (23, [I s_.Ops, I s_.States]))]⟩) (by kernel_rfl) ?_
  intro ρ a w144 χ145 hS hE hr
  replace hO := hO.mv hE rfl rfl
  replace h1 := h1.mv hE rfl
  replace h2 := h2.mv hE rfl
  clear hE hr
  refine wseq ?_
  refine wcut (fun a w => ∃ (ρ : Nat → Nat) (χ : Nat → Nat) (x_103 : Bool), VC11_J1 s_ pairs order Q x_103 ∧ St Try.f11.ntmps ⟨[(1, V (.slice a1 pairs.length c1)), (2, V (.slice a2 order.length c2)), (3, Pt 4 0), (28, B x_103)], [(4, (23, [I s_.Ops, I s_.States]))]⟩ ρ a w χ ∧ Old w0 χ0 w χ ∧ RS tP2 w χ a1 pairs c1 ∧ RS tI w χ a2 order c2) ?_ ?_
  · refine region ?_
    refine opsP T hS 4 (sp := []) (ks := [1, 2, 3, 14]) (bs := [4]) (sy' := ⟨[(1, V (.slice a1 pairs.length c1)), (2, V (.slice a2 order.length c2)), (3, Pt 4 0), (14, B (decide (s_.Ops > 10)))], [(4, (23, [I s_.Ops, I s_.States]))]⟩) (by kernel_rfl) ?_
    intro a hS
    rcases Bool.eq_false_or_eq_true (decide (s_.Ops > 10)) with hb | hb
    · replace hS := hS.lit (t := 14) (by kernel_rfl) hb
      replace hm := hm.1 hb
      refine endP T hS (sp := []) (ks := [1, 2, 3, 28]) (bs := [4]) (sy' := ⟨[(1, V (.slice a1 pairs.length c1)), (2, V (.slice a2 order.length c2)), (3, Pt 4 0), (28, B true)], [(4, (23, [I s_.Ops, I s_.States]))]⟩) (by kernel_rfl) ?_
      intro a hS
      exact ⟨ρ, _, true, hm, hS.sel [1, 2, 3, 28] [4] (by kernel_rfl), hO, h1, h2⟩
    · replace hS := hS.lit (t := 14) (by kernel_rfl) hb
      replace hm := hm.2 hb
      refine opsP T hS 1 (sp := []) (ks := [1, 2, 3, 14, 15]) (bs := [4]) (sy' := ⟨[(1, V (.slice a1 pairs.length c1)), (2, V (.slice a2 order.length c2)), (3, Pt 4 0), (14, B false), (15, V (.agg #[.int .i64 s_.Ops, .int .i64 s_.States]))], [(4, (23, [I s_.Ops, I s_.States]))]⟩) (by kernel_rfl) ?_
      intro a hS
      refine op1 (call hS (by kernel_rfl) (by kernel_rfl) hb21 (by kernel_rfl) (fun _ _ => rfl) (k21 _ _ s_) ?_)
      intro v138 a w139 χ140 hE hp hS
      replace hO := hO.mv hE rfl rfl
      replace h1 := h1.mv hE rfl
      replace h2 := h2.mv hE rfl
      clear hE
      obtain ⟨r141, hr⟩ : ∃ r, numbering_Check s_ = r := ⟨_, rfl⟩
      replace hm := hm r141 hr
      rw [hr] at hp
      clear hr
      subst hp
      refine endP T hS (sp := [19, 24]) (ks := [1, 2, 3, 28]) (bs := [4]) (sy' := ⟨[(1, V (.slice a1 pairs.length c1)), (2, V (.slice a2 order.length c2)), (3, Pt 4 0), (28, B (((r141 != 0) || (decide (((pairs.length : Nat) : Int) > 40))) || (decide (((order.length : Nat) : Int) > 60))))], [(4, (23, [I s_.Ops, I s_.States]))]⟩) (by kernel_rfl) ?_
      intro a hS
      exact ⟨ρ, _, (((r141 != 0) || (decide (((pairs.length : Nat) : Int) > 40))) || (decide (((order.length : Nat) : Int) > 60))), hm, hS.sel [1, 2, 3, 28] [4] (by kernel_rfl), hO, h1, h2⟩
  · rintro a w143 ⟨ρ, χ142, x_103, hm, hS, hO, h101, h102⟩
    unfold VC11_J1 at hm
    refine wcond hS (b := x_103) (by kernel_rfl) (fun hb => ?_) (fun hb => ?_)
    · replace hm := hm.1 hb
      refine regO ?_
      refine op1 (call hS (by kernel_rfl) (by kernel_rfl) hb37 (by kernel_rfl) (fun _ _ => rfl) (k37 _ _) ?_)
      intro v104 a w105 χ106 hE hp hS
      replace hO := hO.mv hE rfl rfl
      replace h101 := h101.mv hE rfl
      replace h102 := h102.mv hE rfl
      clear hE
      obtain ⟨r107, hr⟩ : ∃ r, law33_awake = r := ⟨_, rfl⟩
      replace hm := hm r107 hr
      rw [hr] at hp
      clear hr
      subst hp
      refine endP T hS (sp := []) (ks := [6]) (bs := []) (sy' := ⟨[(6, B r107)], []⟩) (by kernel_rfl) ?_
      intro a hS
      refine wret ?_
      exact fin T hS hO (fun c => c) rfl (r := [.bool r107]) (by kernel_rfl) (fun χ' hM hC => ⟨r107, hm, rfl⟩)
    · replace hm := hm.2 hb
      refine wskip ?_
      refine regO ?_
      refine opsP T hS 2 (sp := []) (ks := [1, 2, 3, 31, 32]) (bs := [4]) (sy' := ⟨[(1, V (.slice a1 pairs.length c1)), (2, V (.slice a2 order.length c2)), (3, Pt 4 0), (31, V (.agg #[.int .i64 s_.Ops, .int .i64 s_.States])), (32, V (.slice a2 order.length c2))], [(4, (23, [I s_.Ops, I s_.States]))]⟩) (by kernel_rfl) ?_
      intro a hS
      refine op1 (call hS (by kernel_rfl) (by kernel_rfl) hb45 (by kernel_rfl) (fun _ _ => rfl) (k45 _ _ s_ order a2 c2 h102) ?_)
      intro v108 a w109 χ110 hE hp hS
      replace hO := hO.mv hE rfl rfl
      replace h101 := h101.mv hE rfl
      replace h102 := h102.mv hE rfl
      clear hE
      obtain ⟨a112, c113, hp, h114⟩ := hp
      obtain ⟨r111, hr⟩ : ∃ r, places_Truths s_ order = r := ⟨_, rfl⟩
      replace hm := hm r111 hr
      rw [hr] at hp h114
      clear hr
      subst hp
      replace hm := hm (h114.sm (by kernel_rfl))
      refine endP T hS (sp := []) (ks := [1, 2, 3, 7, 8]) (bs := [4]) (sy' := ⟨[(1, V (.slice a1 pairs.length c1)), (2, V (.slice a2 order.length c2)), (3, Pt 4 0), (7, V (.slice a112 r111.1.length c113)), (8, B r111.2)], [(4, (23, [I s_.Ops, I s_.States]))]⟩) (by kernel_rfl) ?_
      intro a hS
      refine wseq ?_
      refine regP T hS (sp := []) (ks := [1, 2, 3, 7, 37]) (bs := [4]) (sy' := ⟨[(1, V (.slice a1 pairs.length c1)), (2, V (.slice a2 order.length c2)), (3, Pt 4 0), (7, V (.slice a112 r111.1.length c113)), (37, B (!r111.2))], [(4, (23, [I s_.Ops, I s_.States]))]⟩) (by kernel_rfl) ?_
      intro a hS
      refine wcond hS (b := (!r111.2)) (by kernel_rfl) (fun hb => ?_) (fun hb => ?_)
      · replace hm := hm.1 hb
        refine regO ?_
        refine op1 (call hS (by kernel_rfl) (by kernel_rfl) hb37 (by kernel_rfl) (fun _ _ => rfl) (k37 _ _) ?_)
        intro v115 a w116 χ117 hE hp hS
        replace hO := hO.mv hE rfl rfl
        replace h101 := h101.mv hE rfl
        replace h102 := h102.mv hE rfl
        replace h114 := h114.mv hE rfl
        clear hE
        obtain ⟨r118, hr⟩ : ∃ r, law33_awake = r := ⟨_, rfl⟩
        replace hm := hm r118 hr
        rw [hr] at hp
        clear hr
        subst hp
        refine endP T hS (sp := []) (ks := [6]) (bs := []) (sy' := ⟨[(6, B r118)], []⟩) (by kernel_rfl) ?_
        intro a hS
        refine wret ?_
        exact fin T hS hO (fun c => c) rfl (r := [.bool r118]) (by kernel_rfl) (fun χ' hM hC => ⟨r118, hm, rfl⟩)
      · replace hm := hm.2 hb
        refine wskip ?_
        refine regO ?_
        refine opsP T hS 2 (sp := []) (ks := [1, 3, 7, 40, 41]) (bs := [4]) (sy' := ⟨[(1, V (.slice a1 pairs.length c1)), (3, Pt 4 0), (7, V (.slice a112 r111.1.length c113)), (40, V (.slice a2 order.length c2)), (41, V (.slice a1 pairs.length c1))], [(4, (23, [I s_.Ops, I s_.States]))]⟩) (by kernel_rfl) ?_
        intro a hS
        refine op1 (call hS (by kernel_rfl) (by kernel_rfl) hb38 (by kernel_rfl) (fun _ _ => rfl) (k38 _ _ order pairs a2 c2 a1 c1 h102 h101) ?_)
        intro v119 a w120 χ121 hE hp hS
        replace hO := hO.mv hE rfl rfl
        replace h101 := h101.mv hE rfl
        replace h102 := h102.mv hE rfl
        replace h114 := h114.mv hE rfl
        clear hE
        obtain ⟨r122, hr⟩ : ∃ r, times_Against order pairs = r := ⟨_, rfl⟩
        replace hm := hm r122 hr
        rw [hr] at hp
        clear hr
        subst hp
        refine endP T hS (sp := []) (ks := [1, 3, 7, 10]) (bs := [4]) (sy' := ⟨[(1, V (.slice a1 pairs.length c1)), (3, Pt 4 0), (7, V (.slice a112 r111.1.length c113)), (10, B r122.2)], [(4, (23, [I s_.Ops, I s_.States]))]⟩) (by kernel_rfl) ?_
        intro a hS
        refine regO ?_
        refine opsP T hS 3 (sp := []) (ks := [7, 45, 46, 47]) (bs := []) (sy' := ⟨[(7, V (.slice a112 r111.1.length c113)), (45, B r122.2), (46, V (.agg #[.int .i64 s_.Ops, .int .i64 s_.States])), (47, V (.slice a1 pairs.length c1))], []⟩) (by kernel_rfl) ?_
        intro a hS
        obtain ⟨hq, hm⟩ := hm
        refine op1 (call hS (by kernel_rfl) (by kernel_rfl) hb42 (by kernel_rfl) (fun _ _ => rfl) (k42 _ _ s_ pairs a1 c1 hq h101) ?_)
        intro v123 a w124 χ125 hE hp hS
        clear hq
        replace hO := hO.mv hE rfl rfl
        replace h101 := h101.mv hE rfl
        replace h114 := h114.mv hE rfl
        clear hE
        obtain ⟨a127, c128, hp, h129⟩ := hp
        obtain ⟨r126, hr⟩ : ∃ r, times_Clauses s_ pairs = r := ⟨_, rfl⟩
        replace hm := hm r126 hr
        rw [hr] at hp h129
        clear hr
        subst hp
        replace hm := hm (h129.sm (by kernel_rfl))
        refine opsP T hS 2 (sp := []) (ks := [45, 49, 50]) (bs := []) (sy' := ⟨[(45, B r122.2), (49, V (.agg #[.int .i64 0, .slice a127 r126.length c128])), (50, V (.slice a112 r111.1.length c113))], []⟩) (by kernel_rfl) ?_
        intro a hS
        refine op1 (call hS (by kernel_rfl) (by kernel_rfl) hb36 (by kernel_rfl) (fun _ _ => rfl) (k36 _ _ (⟨0, r126⟩ : Api_Formula) r111.1 a127 c128 a112 c113 h129 h114) ?_)
        intro v130 a w131 χ132 hE hp hS
        replace hO := hO.mv hE rfl rfl
        replace h114 := h114.mv hE rfl
        replace h129 := h129.mv hE rfl
        clear hE
        obtain ⟨r133, hr⟩ : ∃ r, ref04_First (⟨0, r126⟩ : Api_Formula) r111.1 = r := ⟨_, rfl⟩
        replace hm := hm r133 hr
        rw [hr] at hp
        clear hr
        subst hp
        refine opsP T hS 3 (sp := []) (ks := [54]) (bs := []) (sy' := ⟨[(54, B (r122.2 == (decide (r133 < 0))))], []⟩) (by kernel_rfl) ?_
        intro a hS
        rcases Bool.eq_false_or_eq_true (r122.2 == (decide (r133 < 0))) with hb | hb
        · replace hS := hS.lit (t := 54) (by kernel_rfl) hb
          replace hm := hm.1 hb
          refine op1 (call hS (by kernel_rfl) (by kernel_rfl) hb37 (by kernel_rfl) (fun _ _ => rfl) (k37 _ _) ?_)
          intro v134 a w135 χ136 hE hp hS
          replace hO := hO.mv hE rfl rfl
          clear hE
          obtain ⟨r137, hr⟩ : ∃ r, law33_awake = r := ⟨_, rfl⟩
          replace hm := hm r137 hr
          rw [hr] at hp
          clear hr
          subst hp
          refine endP T hS (sp := []) (ks := [6]) (bs := []) (sy' := ⟨[(6, B r137)], []⟩) (by kernel_rfl) ?_
          intro a hS
          refine wret ?_
          exact fin T hS hO (fun c => c) rfl (r := [.bool r137]) (by kernel_rfl) (fun χ' hM hC => ⟨r137, hm, rfl⟩)
        · replace hS := hS.lit (t := 54) (by kernel_rfl) hb
          replace hm := hm.2 hb
          refine endP T hS (sp := []) (ks := [6]) (bs := []) (sy' := ⟨[(6, B false)], []⟩) (by kernel_rfl) ?_
          intro a hS
          refine wret ?_
          exact fin T hS hO (fun c => c) rfl (r := [.bool false]) (by kernel_rfl) (fun χ' hM hC => ⟨false, hm, rfl⟩)
end Go.Proofs.Ytlpcjbjlgeaapaa
