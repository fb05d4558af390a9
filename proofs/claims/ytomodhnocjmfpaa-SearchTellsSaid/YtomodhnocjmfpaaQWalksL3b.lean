/- Walks: each function returns what its condition asks. Condition: the contracts of its callees, handed in. -/
import Derived.Test.YtomodhnocjmfpaaQWalksS
set_option linter.all false
namespace Go.Proofs.Ytomodhnocjmfpaa
open Go Go.Sv
set_option maxHeartbeats 1000000
/-- replevin/replevinref27.Check -/
theorem W24 (k38 : S38) (k39 : S39) (w0 : World) (χ0 : Nat → Nat) (l_ : List Api_Oper) (a1 : Option Addr) (c1 : Nat) (Q : Int × Int → Prop) (hm : VC24 l_ Q) (h1 : RS tApi_Oper w0 χ0 a1 l_ c1) :
  Ret Try.prog 24 #[.slice a1 l_.length c1] xnone w0 χ0 (fun w χ' v => ∃ r, Q r ∧ v = .tuple #[.int .i64 r.1, .int .i64 r.2]) := by
 unfold VC24 at hm
 replace hm := hm (h1.sm kr)
 refine enter Try.func24 rfl (vals := [.slice a1 l_.length c1]) kr ?_
 intro ρ a hS hO hM
 replace h1 := h1.m0 hM
 clear hM
 refine rP T hS ⟨[(0, Sl a1 l_ c1)], []⟩ fun a hS => ?_
 refine wseq ?_
 refine rP T hS ⟨[(0, Sl a1 l_ c1), (10, B (decide (((l_.length : Nat) : Int) > 5000)))], []⟩ fun a hS => ?_
 refine wcond hS (b := decide (((l_.length : Nat) : Int) > 5000)) kr (fun hb => ?_) (fun hb => ?_)
 ·replace hm := hm.1 hb
  refine rP T hS ⟨[(2, I 0), (3, I 3)], []⟩ fun a hS => ?_
  refine wret ?_
  exact fin T hS hO (fun c => c) rfl (r := [.int .i64 0, .int .i64 3]) kr (fun χ' hM hC => ⟨(0, 3), hm, rfl⟩)
 ·replace hm := hm.2 hb
  refine wskip ?_
  refine wcut (fun a w => ∃ (ρ : Nat → Nat) (χ : Nat → Nat), VC24_J1 l_ Q ∧ St Try.f24.ntmps ⟨[(0, Sl a1 l_ c1)], []⟩ ρ a w χ ∧ Old w0 χ0 w χ ∧ RS tApi_Oper w χ a1 l_ c1) ?_ ?_
  ·refine rP T hS ⟨[(0, Sl a1 l_ c1), (4, I 0)], []⟩ fun a hS => ?_
   refine wblock ?_
   obtain ⟨I1, μ1, hm0, hm⟩ := hm
   refine wloop (σ := Int) (fun s a w => ∃ (ρ : Nat → Nat) (χ : Nat → Nat), I1 s ∧ St Try.f24.ntmps ⟨[(0, Sl a1 l_ c1), (4, I s)], []⟩ ρ a w χ ∧ Old w0 χ0 w χ ∧ RS tApi_Oper w χ a1 l_ c1) (fun s => μ1 s) (0) ?_ ?_
   ·exact ⟨ρ, _, hm0, hS.sl _, hO, h1⟩
   ·rintro i_103 a w155 ⟨ρ, χ154, hI, hS, hO, h102⟩
    replace hm := hm i_103 hI
    clear hI hm0
    refine wseq ?_
    refine rP T hS ⟨[(0, Sl a1 l_ c1), (4, I i_103), (14, B (decide (i_103 < ((l_.length : Nat) : Int))))], []⟩ fun a hS => ?_
    refine wcond hS (b := decide (i_103 < ((l_.length : Nat) : Int))) kr (fun hb => ?_) (fun hb => ?_)
    ·replace hm := hm.1 hb
     refine wskip ?_
     refine wseq ?_
     refine wblock ?_
     refine regO ?_
     refine oP T hS 2 ⟨[(0, Sl a1 l_ c1), (4, I i_103), (17, Sl a1 l_ c1), (18, I i_103)], []⟩ fun a hS => ?_
     obtain ⟨hq, hm⟩ := hm
     refine op1 (index (e := 45) (k := .i64) T hS kr kr kr kr h102 kr kr hq.1 hq.2 ?_)
     intro A104 a h105 hS
     clear hq
     refine op1 (loadA T hS kr kr kr h105 kr kr ?_)
     intro v106 a hv hS
     subst hv
     refine eM T hS ⟨[(0, Sl a1 l_ c1), (4, I i_103), (5, Pt 6 0)], [(6, (45, [I ((gi l_ i_103).Prc), I ((gi l_ i_103).Kind), I ((gi l_ i_103).Start), I ((gi l_ i_103).End), I ((gi l_ i_103).Result)]))]⟩ fun ρ a w152 χ153 hS hE hr => ?_
     replace hO := hO.mv hE rfl rfl
     replace h102 := h102.mv hE rfl
     clear hE hr
     refine wseq ?_
     refine rP T hS ⟨[(0, Sl a1 l_ c1), (4, I i_103), (5, Pt 6 0), (38, B ((((decide (((gi l_ i_103).Prc) < 1)) || (decide (((gi l_ i_103).Prc) > 1000))) || (decide (((gi l_ i_103).Start) < 0))) || (decide (((gi l_ i_103).Start) > 9999))))], [(6, (45, [I ((gi l_ i_103).Prc), I ((gi l_ i_103).Kind), I ((gi l_ i_103).Start), I ((gi l_ i_103).End), I ((gi l_ i_103).Result)]))]⟩ (sp := [24, 29, 34]) fun a hS => ?_
     refine wcond hS (b := ((((decide (((gi l_ i_103).Prc) < 1)) || (decide (((gi l_ i_103).Prc) > 1000))) || (decide (((gi l_ i_103).Start) < 0))) || (decide (((gi l_ i_103).Start) > 9999)))) kr (fun hb => ?_) (fun hb => ?_)
     ·replace hm := hm.1 hb
      refine rP T hS ⟨[(2, I i_103), (3, I 2)], []⟩ fun a hS => ?_
      refine wret ?_
      exact fin T hS hO (fun c => c) rfl (r := [.int .i64 i_103, .int .i64 2]) kr (fun χ' hM hC => ⟨(i_103, 2), hm, rfl⟩)
     ·replace hm := hm.2 hb
      refine wskip ?_
      refine wseq ?_
      refine rP T hS ⟨[(0, Sl a1 l_ c1), (4, I i_103), (5, Pt 6 0), (47, B ((decide (((gi l_ i_103).Kind) < 0)) || (decide (((gi l_ i_103).Kind) > 63))))], [(6, (45, [I ((gi l_ i_103).Prc), I ((gi l_ i_103).Kind), I ((gi l_ i_103).Start), I ((gi l_ i_103).End), I ((gi l_ i_103).Result)]))]⟩ (sp := [43]) fun a hS => ?_
      refine wcond hS (b := ((decide (((gi l_ i_103).Kind) < 0)) || (decide (((gi l_ i_103).Kind) > 63)))) kr (fun hb => ?_) (fun hb => ?_)
      ·replace hm := hm.1 hb
       refine rP T hS ⟨[(2, I i_103), (3, I 31)], []⟩ fun a hS => ?_
       refine wret ?_
       exact fin T hS hO (fun c => c) rfl (r := [.int .i64 i_103, .int .i64 31]) kr (fun χ' hM hC => ⟨(i_103, 31), hm, rfl⟩)
      ·replace hm := hm.2 hb
       refine wskip ?_
       refine wseq ?_
       refine rP T hS ⟨[(0, Sl a1 l_ c1), (4, I i_103), (5, Pt 6 0), (83, B (((((gi l_ i_103).End) == (-1)) && (((gi l_ i_103).Result) != (-1))) || ((((gi l_ i_103).End) != (-1)) && ((((decide (((gi l_ i_103).End) ≤ ((gi l_ i_103).Start))) || (decide (((gi l_ i_103).End) > 9999))) || (decide (((gi l_ i_103).Result) < 0))) || (decide (((gi l_ i_103).Result) > 1000000))))))], [(6, (45, [I ((gi l_ i_103).Prc), I ((gi l_ i_103).Kind), I ((gi l_ i_103).Start), I ((gi l_ i_103).End), I ((gi l_ i_103).Result)]))]⟩ (sp := [52, 57, 61, 67, 72, 77]) fun a hS => ?_
       refine wcond hS (b := (((((gi l_ i_103).End) == (-1)) && (((gi l_ i_103).Result) != (-1))) || ((((gi l_ i_103).End) != (-1)) && ((((decide (((gi l_ i_103).End) ≤ ((gi l_ i_103).Start))) || (decide (((gi l_ i_103).End) > 9999))) || (decide (((gi l_ i_103).Result) < 0))) || (decide (((gi l_ i_103).Result) > 1000000)))))) kr (fun hb => ?_) (fun hb => ?_)
       ·replace hm := hm.1 hb
        refine rP T hS ⟨[(2, I i_103), (3, I 7)], []⟩ fun a hS => ?_
        refine wret ?_
        exact fin T hS hO (fun c => c) rfl (r := [.int .i64 i_103, .int .i64 7]) kr (fun χ' hM hC => ⟨(i_103, 7), hm, rfl⟩)
       ·replace hm := hm.2 hb
        refine wskip ?_
        refine rP T hS ⟨[(0, Sl a1 l_ c1), (4, I i_103), (5, Pt 6 0), (6, B false)], [(6, (45, [I ((gi l_ i_103).Prc), I ((gi l_ i_103).Kind), I ((gi l_ i_103).Start), I ((gi l_ i_103).End), I ((gi l_ i_103).Result)]))]⟩ fun a hS => ?_
        refine wcut (fun a w => ∃ (ρ : Nat → Nat) (χ : Nat → Nat) (open_108 : Bool), VC24_J2 Q I1 μ1 i_103 open_108 ∧ St Try.f24.ntmps ⟨[(0, Sl a1 l_ c1), (4, I i_103), (6, B open_108)], []⟩ ρ a w χ ∧ Old w0 χ0 w χ ∧ RS tApi_Oper w χ a1 l_ c1) ?_ ?_
        ·refine rP T hS ⟨[(0, Sl a1 l_ c1), (4, I i_103), (5, Pt 6 0), (6, B false), (7, I 0)], [(6, (45, [I ((gi l_ i_103).Prc), I ((gi l_ i_103).Kind), I ((gi l_ i_103).Start), I ((gi l_ i_103).End), I ((gi l_ i_103).Result)]))]⟩ fun a hS => ?_
         refine wblock ?_
         obtain ⟨I2, μ2, hm0, hm⟩ := hm
         refine wloop (σ := Bool × Int) (fun s a w => ∃ (ρ : Nat → Nat) (χ : Nat → Nat), I2 s.1 s.2 ∧ St Try.f24.ntmps ⟨[(0, Sl a1 l_ c1), (4, I i_103), (5, Pt 6 0), (6, B s.1), (7, I s.2)], [(6, (45, [I ((gi l_ i_103).Prc), I ((gi l_ i_103).Kind), I ((gi l_ i_103).Start), I ((gi l_ i_103).End), I ((gi l_ i_103).Result)]))]⟩ ρ a w χ ∧ Old w0 χ0 w χ ∧ RS tApi_Oper w χ a1 l_ c1) (fun s => μ2 s.1 s.2) (⟨false, 0⟩) ?_ ?_
         ·exact ⟨ρ, _, hm0, hS.sl _, hO, h102⟩
         ·rintro ⟨open_110, k_111⟩ a w149 ⟨ρ, χ148, hI, hS, hO, h109⟩
          replace hm := hm open_110 k_111 hI
          clear hI hm0
          refine wseq ?_
          refine rP T hS ⟨[(0, Sl a1 l_ c1), (4, I i_103), (5, Pt 6 0), (6, B open_110), (7, I k_111), (87, B (decide (k_111 < i_103)))], [(6, (45, [I ((gi l_ i_103).Prc), I ((gi l_ i_103).Kind), I ((gi l_ i_103).Start), I ((gi l_ i_103).End), I ((gi l_ i_103).Result)]))]⟩ fun a hS => ?_
          refine wcond hS (b := decide (k_111 < i_103)) kr (fun hb => ?_) (fun hb => ?_)
          ·replace hm := hm.1 hb
           refine wskip ?_
           refine wcut (fun a w => ∃ (ρ : Nat → Nat) (χ : Nat → Nat) (open_113 : Bool), VC24_J3 I2 μ2 open_110 k_111 open_113 ∧ St Try.f24.ntmps ⟨[(0, Sl a1 l_ c1), (4, I i_103), (5, Pt 6 0), (6, B open_113), (7, I k_111)], [(6, (45, [I ((gi l_ i_103).Prc), I ((gi l_ i_103).Kind), I ((gi l_ i_103).Start), I ((gi l_ i_103).End), I ((gi l_ i_103).Result)]))]⟩ ρ a w χ ∧ Old w0 χ0 w χ ∧ RS tApi_Oper w χ a1 l_ c1) ?_ ?_
           ·refine wblock ?_
            refine wseq ?_
            refine wcut (fun a w => ∃ (ρ : Nat → Nat) (χ : Nat → Nat) (x_115 : Bool), VC24_J4 l_ Q i_103 I2 μ2 open_110 k_111 x_115 ∧ St Try.f24.ntmps ⟨[(0, Sl a1 l_ c1), (4, I i_103), (5, Pt 6 0), (6, B open_110), (7, I k_111), (105, B x_115)], [(6, (45, [I ((gi l_ i_103).Prc), I ((gi l_ i_103).Kind), I ((gi l_ i_103).Start), I ((gi l_ i_103).End), I ((gi l_ i_103).Result)]))]⟩ ρ a w χ ∧ Old w0 χ0 w χ ∧ RS tApi_Oper w χ a1 l_ c1) ?_ ?_
            ·refine drawnX [6] mixed hS ?_
             intro w130 χ131 hS hE hD hH
             replace hO := hO.mv hE rfl rfl
             replace h109 := h109.mv hE rfl
             clear hE
             refine tk T [0, 1, 5, 6] [6] hS hH #[true, true, false, false, false, true, true, false, false, false, false, false, false, false, false, false] 12 ⟨[(0, Sl a1 l_ c1), (4, I i_103), (5, Pt 6 0), (6, B open_110), (7, I k_111), (90, Sl a1 l_ c1), (91, I k_111), (96, I ((gi l_ i_103).Start))], [(6, (45, [I ((gi l_ i_103).Prc), I ((gi l_ i_103).Kind), I ((gi l_ i_103).Start), I ((gi l_ i_103).End), I ((gi l_ i_103).Result)]))]⟩ fun a hS => ?_
             obtain ⟨hq, hm⟩ := hm
             refine dindex (e := 45) (k := .i64) T 2 hS kr kr kr (by rfl) kr hH kr kr h109 kr kr hq.1 hq.2 ?_
             intro A132 a h133 hS
             clear hq
             have h133b := h133.here
             refine dfieldA (off := 2) (fsz := 1) (ft := 3) (TF := tI) (y := (gi l_ k_111).Start) 3 T hS kr kr kr (by rfl) kr hH kr h133 kr kr kr (fun cs h => Api_Oper_f2 h) ?_
             intro A134 a h135 hbl hS
             have h135b := h133b
             rw [← hbl] at h135b
             clear hbl
             refine dload1 T 4 hS kr kr kr (by rfl) kr hH kr h135 h135b rfl kr ?_
             intro v136 a hv hS
             cases hv
             refine tk T [7, 8] [6] hS hH #[true, true, true, true, true, true, true, true, true, false, false, false, false, false, false, false] 7 ⟨[(0, Sl a1 l_ c1), (4, I i_103), (5, Pt 6 0), (6, B open_110), (7, I k_111), (98, B (decide (((gi l_ k_111).Start) ≥ ((gi l_ i_103).Start))))], [(6, (45, [I ((gi l_ i_103).Prc), I ((gi l_ i_103).Kind), I ((gi l_ i_103).Start), I ((gi l_ i_103).End), I ((gi l_ i_103).Result)]))]⟩ fun a hS => ?_
             rcases Bool.eq_false_or_eq_true (decide (((gi l_ k_111).Start) ≥ ((gi l_ i_103).Start))) with hb | hb
             ·replace hS := hS.lit (t := 98) kr hb
              replace hm := hm.1 hb
              refine tk T [9, 10, 13, 11, 12, 14, 15] [6] hS hH #[true, true, true, true, true, true, true, true, true, true, true, true, true, true, true, true] 0 ⟨[(0, Sl a1 l_ c1), (4, I i_103), (5, Pt 6 0), (6, B open_110), (7, I k_111), (99, V undef), (100, V undef), (101, V undef), (102, V undef), (103, V undef), (104, V undef), (105, B true)], [(6, (45, [I ((gi l_ i_103).Prc), I ((gi l_ i_103).Kind), I ((gi l_ i_103).Start), I ((gi l_ i_103).End), I ((gi l_ i_103).Result)]))]⟩ fun a hS => ?_
              refine drawnDone kr ?_
              clear hD hH
              replace hS := hS.sl ⟨[(0, Sl a1 l_ c1), (4, I i_103), (5, Pt 6 0), (6, B open_110), (7, I k_111), (105, B true)], [(6, (45, [I ((gi l_ i_103).Prc), I ((gi l_ i_103).Kind), I ((gi l_ i_103).Start), I ((gi l_ i_103).End), I ((gi l_ i_103).Result)]))]⟩
              exact ⟨ρ, _, true, hm, hS.sl _, hO, h109⟩
             ·replace hS := hS.lit (t := 98) kr hb
              replace hm := hm.2 hb
              refine tk T [9, 10, 13] [6] hS hH #[true, true, true, true, true, true, true, true, true, true, true, false, false, true, false, false] 4 ⟨[(0, Sl a1 l_ c1), (4, I i_103), (5, Pt 6 0), (6, B open_110), (7, I k_111), (98, B false), (99, Sl a1 l_ c1), (100, I k_111), (103, V (.agg #[.int .i64 ((gi l_ i_103).Prc), .int .i64 ((gi l_ i_103).Kind), .int .i64 ((gi l_ i_103).Start), .int .i64 ((gi l_ i_103).End), .int .i64 ((gi l_ i_103).Result)]))], [(6, (45, [I ((gi l_ i_103).Prc), I ((gi l_ i_103).Kind), I ((gi l_ i_103).Start), I ((gi l_ i_103).End), I ((gi l_ i_103).Result)]))]⟩ fun a hS => ?_
              obtain ⟨hq, hm⟩ := hm
              refine dindex (e := 45) (k := .i64) T 11 hS kr kr kr (by rfl) kr hH kr kr h109 kr kr hq.1 hq.2 ?_
              intro A137 a h138 hS
              clear hq
              have h138b := h138.here
              refine dloadA T 12 hS kr kr kr (by rfl) kr hH kr h138 h138b kr kr ?_
              intro v139 a hv hS
              subst hv
              refine only 14 kr (by rfl) (call hS kr kr hb38 kr (fun _ _ => rfl) (k38 _ _ (gi l_ k_111) (gi l_ i_103)) ?_)
              intro v140 a w141 χ142 hE hp hS
              replace hO := hO.mv hE rfl rfl
              replace hD := hD.ev hE rfl
              replace h109 := h109.mv hE rfl
              replace h133 := h133.mv hE rfl
              replace h135 := h135.mv hE rfl
              replace h138 := h138.mv hE rfl
              clear hE
              obtain ⟨r143, hr⟩ : ∃ r, ref27_meets (gi l_ k_111) (gi l_ i_103) = r := ⟨_, rfl⟩
              replace hm := hm r143 hr
              rw [hr] at hp
              clear hr
              subst hp
              replace hS := hS.sl ⟨[(0, Sl a1 l_ c1), (4, I i_103), (5, Pt 6 0), (6, B open_110), (7, I k_111), (98, B false), (99, Sl a1 l_ c1), (100, I k_111), (103, V (.agg #[.int .i64 ((gi l_ i_103).Prc), .int .i64 ((gi l_ i_103).Kind), .int .i64 ((gi l_ i_103).Start), .int .i64 ((gi l_ i_103).End), .int .i64 ((gi l_ i_103).Result)])), (101, V (.pointer (some A137))), (102, V (.agg #[.int .i64 ((gi l_ k_111).Prc), .int .i64 ((gi l_ k_111).Kind), .int .i64 ((gi l_ k_111).Start), .int .i64 ((gi l_ k_111).End), .int .i64 ((gi l_ k_111).Result)])), (104, B r143)], [(6, (45, [I ((gi l_ i_103).Prc), I ((gi l_ i_103).Kind), I ((gi l_ i_103).Start), I ((gi l_ i_103).End), I ((gi l_ i_103).Result)]))]⟩
              refine andH (Hold.of hS (bks := [6]) kr hD) ?_
              intro hH
              refine tk T [15] [6] hS hH #[true, true, true, true, true, true, true, true, true, true, true, true, true, true, true, true] 0 ⟨[(0, Sl a1 l_ c1), (4, I i_103), (5, Pt 6 0), (6, B open_110), (7, I k_111), (99, Sl a1 l_ c1), (100, I k_111), (101, V (.pointer (some A137))), (102, V (.agg #[.int .i64 ((gi l_ k_111).Prc), .int .i64 ((gi l_ k_111).Kind), .int .i64 ((gi l_ k_111).Start), .int .i64 ((gi l_ k_111).End), .int .i64 ((gi l_ k_111).Result)])), (103, V (.agg #[.int .i64 ((gi l_ i_103).Prc), .int .i64 ((gi l_ i_103).Kind), .int .i64 ((gi l_ i_103).Start), .int .i64 ((gi l_ i_103).End), .int .i64 ((gi l_ i_103).Result)])), (104, B r143), (105, B r143)], [(6, (45, [I ((gi l_ i_103).Prc), I ((gi l_ i_103).Kind), I ((gi l_ i_103).Start), I ((gi l_ i_103).End), I ((gi l_ i_103).Result)]))]⟩ fun a hS => ?_
              refine drawnDone kr ?_
              clear hD hH
              replace hS := hS.sl ⟨[(0, Sl a1 l_ c1), (4, I i_103), (5, Pt 6 0), (6, B open_110), (7, I k_111), (99, Sl a1 l_ c1), (100, I k_111), (101, V (.pointer (some A137))), (102, V (.agg #[.int .i64 ((gi l_ k_111).Prc), .int .i64 ((gi l_ k_111).Kind), .int .i64 ((gi l_ k_111).Start), .int .i64 ((gi l_ k_111).End), .int .i64 ((gi l_ k_111).Result)])), (103, V (.agg #[.int .i64 ((gi l_ i_103).Prc), .int .i64 ((gi l_ i_103).Kind), .int .i64 ((gi l_ i_103).Start), .int .i64 ((gi l_ i_103).End), .int .i64 ((gi l_ i_103).Result)])), (104, B r143), (105, B r143)], [(6, (45, [I ((gi l_ i_103).Prc), I ((gi l_ i_103).Kind), I ((gi l_ i_103).Start), I ((gi l_ i_103).End), I ((gi l_ i_103).Result)]))]⟩
              exact ⟨ρ, _, r143, hm, hS.sl _, hO, h109⟩
            ·rintro a w145 ⟨ρ, χ144, x_115, hm, hS, hO, h114⟩
             unfold VC24_J4 at hm
             refine wcond hS (b := x_115) kr (fun hb => ?_) (fun hb => ?_)
             ·replace hm := hm.1 hb
              refine rP T hS ⟨[(2, I i_103), (3, I 32)], []⟩ fun a hS => ?_
              refine wret ?_
              exact fin T hS hO (fun c => c) rfl (r := [.int .i64 i_103, .int .i64 32]) kr (fun χ' hM hC => ⟨(i_103, 32), hm, rfl⟩)
             ·replace hm := hm.2 hb
              refine wskip ?_
              refine drawnX [6] mixed hS ?_
              intro w116 χ117 hS hE hD hH
              replace hO := hO.mv hE rfl rfl
              replace h114 := h114.mv hE rfl
              clear hE
              refine tk T [0, 1] [6] hS hH #[true, true, false, false, false, false, false, false, false, false, false, false, false, false, false, false, false, false, false, false, false] 19 ⟨[(0, Sl a1 l_ c1), (4, I i_103), (5, Pt 6 0), (6, B open_110), (7, I k_111), (108, B open_110)], [(6, (45, [I ((gi l_ i_103).Prc), I ((gi l_ i_103).Kind), I ((gi l_ i_103).Start), I ((gi l_ i_103).End), I ((gi l_ i_103).Result)]))]⟩ fun a hS => ?_
              rcases Bool.eq_false_or_eq_true open_110 with hb | hb
              ·replace hS := hS.lit (t := 108) kr hb
               replace hm := hm.1 hb
               refine tk T [2, 3, 7, 4, 8, 5, 6, 9, 10, 11, 12, 15, 13, 14, 16, 17, 18, 19, 20] [6] hS hH #[true, true, true, true, true, true, true, true, true, true, true, true, true, true, true, true, true, true, true, true, true] 0 ⟨[(0, Sl a1 l_ c1), (4, I i_103), (5, Pt 6 0), (6, B true), (7, I k_111), (109, V undef), (110, V undef), (111, V undef), (112, V undef), (113, V undef), (114, V undef), (115, V undef), (116, V undef), (117, V undef), (118, V undef), (119, V undef), (120, V undef), (121, V undef), (122, V undef), (123, V undef), (124, V undef), (125, V undef)], [(6, (45, [I ((gi l_ i_103).Prc), I ((gi l_ i_103).Kind), I ((gi l_ i_103).Start), I ((gi l_ i_103).End), I ((gi l_ i_103).Result)]))]⟩ fun a hS => ?_
               refine drawnDone kr ?_
               clear hD hH
               replace hS := hS.sl ⟨[(0, Sl a1 l_ c1), (4, I i_103), (5, Pt 6 0), (6, B true), (7, I k_111)], [(6, (45, [I ((gi l_ i_103).Prc), I ((gi l_ i_103).Kind), I ((gi l_ i_103).Start), I ((gi l_ i_103).End), I ((gi l_ i_103).Result)]))]⟩
               exact ⟨ρ, _, true, hm, hS.sl _, hO, h114⟩
              ·replace hS := hS.lit (t := 108) kr hb
               replace hm := hm.2 hb
               refine tk T [2, 3, 7, 8] [6] hS hH #[true, true, true, true, false, false, false, true, true, false, false, false, false, false, false, false, false, false, false, false, false] 15 ⟨[(0, Sl a1 l_ c1), (4, I i_103), (5, Pt 6 0), (6, B open_110), (7, I k_111), (108, B false), (109, Sl a1 l_ c1), (110, I k_111), (114, Pt 6 0), (115, I ((gi l_ i_103).Prc))], [(6, (45, [I ((gi l_ i_103).Prc), I ((gi l_ i_103).Kind), I ((gi l_ i_103).Start), I ((gi l_ i_103).End), I ((gi l_ i_103).Result)]))]⟩ fun a hS => ?_
               obtain ⟨hq, hm⟩ := hm
               refine dindex (e := 45) (k := .i64) T 4 hS kr kr kr (by rfl) kr hH kr kr h114 kr kr hq.1 hq.2 ?_
               intro A118 a h119 hS
               clear hq
               have h119b := h119.here
               refine dfieldA (off := 0) (fsz := 1) (ft := 3) (TF := tI) (y := (gi l_ k_111).Prc) 5 T hS kr kr kr (by rfl) kr hH kr h119 kr kr kr (fun cs h => Api_Oper_f0 h) ?_
               intro A120 a h121 hbl hS
               have h121b := h119b
               rw [← hbl] at h121b
               clear hbl
               refine dload1 T 6 hS kr kr kr (by rfl) kr hH kr h121 h121b rfl kr ?_
               intro v122 a hv hS
               cases hv
               refine tk T [9, 10] [6] hS hH #[true, true, true, true, true, true, true, true, true, true, true, false, false, false, false, false, false, false, false, false, false] 10 ⟨[(0, Sl a1 l_ c1), (4, I i_103), (5, Pt 6 0), (6, B open_110), (7, I k_111), (108, B false), (109, Sl a1 l_ c1), (110, I k_111), (111, V (.pointer (some A118))), (112, V (.pointer (some A120))), (113, I ((gi l_ k_111).Prc)), (114, Pt 6 0), (115, I ((gi l_ i_103).Prc)), (116, B (((gi l_ k_111).Prc) == ((gi l_ i_103).Prc))), (117, B (((gi l_ k_111).Prc) == ((gi l_ i_103).Prc)))], [(6, (45, [I ((gi l_ i_103).Prc), I ((gi l_ i_103).Kind), I ((gi l_ i_103).Start), I ((gi l_ i_103).End), I ((gi l_ i_103).Result)]))]⟩ fun a hS => ?_
               rcases Bool.eq_false_or_eq_true (((gi l_ k_111).Prc) == ((gi l_ i_103).Prc)) with hb | hb
               ·replace hS := hS.lit (t := 117) kr hb
                replace hm := hm.1 hb
                refine tk T [11, 12, 15] [6] hS hH #[true, true, true, true, true, true, true, true, true, true, true, true, true, false, false, true, false, false, false, false, false] 7 ⟨[(0, Sl a1 l_ c1), (4, I i_103), (5, Pt 6 0), (6, B open_110), (7, I k_111), (108, B false), (109, Sl a1 l_ c1), (110, I k_111), (111, V (.pointer (some A118))), (112, V (.pointer (some A120))), (113, I ((gi l_ k_111).Prc)), (114, Pt 6 0), (115, I ((gi l_ i_103).Prc)), (116, B (((gi l_ k_111).Prc) == ((gi l_ i_103).Prc))), (117, B true), (118, Sl a1 l_ c1), (119, I k_111), (122, V (.agg #[.int .i64 ((gi l_ i_103).Prc), .int .i64 ((gi l_ i_103).Kind), .int .i64 ((gi l_ i_103).Start), .int .i64 ((gi l_ i_103).End), .int .i64 ((gi l_ i_103).Result)]))], [(6, (45, [I ((gi l_ i_103).Prc), I ((gi l_ i_103).Kind), I ((gi l_ i_103).Start), I ((gi l_ i_103).End), I ((gi l_ i_103).Result)]))]⟩ fun a hS => ?_
                obtain ⟨hq, hm⟩ := hm
                refine dindex (e := 45) (k := .i64) T 13 hS kr kr kr (by rfl) kr hH kr kr h114 kr kr hq.1 hq.2 ?_
                intro A123 a h124 hS
                clear hq
                have h124b := h124.here
                refine dloadA T 14 hS kr kr kr (by rfl) kr hH kr h124 h124b kr kr ?_
                intro v125 a hv hS
                subst hv
                refine only 16 kr (by rfl) (call hS kr kr hb39 kr (fun _ _ => rfl) (k39 _ _ (gi l_ k_111) (gi l_ i_103)) ?_)
                intro v126 a w127 χ128 hE hp hS
                replace hO := hO.mv hE rfl rfl
                replace hD := hD.ev hE rfl
                replace h114 := h114.mv hE rfl
                replace h119 := h119.mv hE rfl
                replace h121 := h121.mv hE rfl
                replace h124 := h124.mv hE rfl
                clear hE
                obtain ⟨r129, hr⟩ : ∃ r, ref27_Ahead (gi l_ k_111) (gi l_ i_103) = r := ⟨_, rfl⟩
                replace hm := hm r129 hr
                rw [hr] at hp
                clear hr
                subst hp
                replace hS := hS.sl ⟨[(0, Sl a1 l_ c1), (4, I i_103), (5, Pt 6 0), (6, B open_110), (7, I k_111), (108, B false), (109, Sl a1 l_ c1), (110, I k_111), (111, V (.pointer (some A118))), (112, V (.pointer (some A120))), (113, I ((gi l_ k_111).Prc)), (114, Pt 6 0), (115, I ((gi l_ i_103).Prc)), (116, B (((gi l_ k_111).Prc) == ((gi l_ i_103).Prc))), (117, B true), (118, Sl a1 l_ c1), (119, I k_111), (122, V (.agg #[.int .i64 ((gi l_ i_103).Prc), .int .i64 ((gi l_ i_103).Kind), .int .i64 ((gi l_ i_103).Start), .int .i64 ((gi l_ i_103).End), .int .i64 ((gi l_ i_103).Result)])), (120, V (.pointer (some A123))), (121, V (.agg #[.int .i64 ((gi l_ k_111).Prc), .int .i64 ((gi l_ k_111).Kind), .int .i64 ((gi l_ k_111).Start), .int .i64 ((gi l_ k_111).End), .int .i64 ((gi l_ k_111).Result)])), (123, B r129)], [(6, (45, [I ((gi l_ i_103).Prc), I ((gi l_ i_103).Kind), I ((gi l_ i_103).Start), I ((gi l_ i_103).End), I ((gi l_ i_103).Result)]))]⟩
                refine andH (Hold.of hS (bks := [6]) kr hD) ?_
                intro hH
                refine tk T [17, 18, 19, 20] [6] hS hH #[true, true, true, true, true, true, true, true, true, true, true, true, true, true, true, true, true, true, true, true, true] 0 ⟨[(0, Sl a1 l_ c1), (4, I i_103), (5, Pt 6 0), (6, B (!r129)), (7, I k_111), (109, Sl a1 l_ c1), (110, I k_111), (111, V (.pointer (some A118))), (112, V (.pointer (some A120))), (113, I ((gi l_ k_111).Prc)), (114, Pt 6 0), (115, I ((gi l_ i_103).Prc)), (116, B (((gi l_ k_111).Prc) == ((gi l_ i_103).Prc))), (117, B true), (118, Sl a1 l_ c1), (119, I k_111), (120, V (.pointer (some A123))), (121, V (.agg #[.int .i64 ((gi l_ k_111).Prc), .int .i64 ((gi l_ k_111).Kind), .int .i64 ((gi l_ k_111).Start), .int .i64 ((gi l_ k_111).End), .int .i64 ((gi l_ k_111).Result)])), (122, V (.agg #[.int .i64 ((gi l_ i_103).Prc), .int .i64 ((gi l_ i_103).Kind), .int .i64 ((gi l_ i_103).Start), .int .i64 ((gi l_ i_103).End), .int .i64 ((gi l_ i_103).Result)])), (123, B r129), (124, B (!r129)), (125, B (!r129))], [(6, (45, [I ((gi l_ i_103).Prc), I ((gi l_ i_103).Kind), I ((gi l_ i_103).Start), I ((gi l_ i_103).End), I ((gi l_ i_103).Result)]))]⟩ fun a hS => ?_
                refine drawnDone kr ?_
                clear hD hH
                replace hS := hS.sl ⟨[(0, Sl a1 l_ c1), (4, I i_103), (5, Pt 6 0), (6, B (!r129)), (7, I k_111), (109, Sl a1 l_ c1), (110, I k_111), (111, V (.pointer (some A118))), (112, V (.pointer (some A120))), (113, I ((gi l_ k_111).Prc)), (114, Pt 6 0), (115, I ((gi l_ i_103).Prc)), (116, B (((gi l_ k_111).Prc) == ((gi l_ i_103).Prc))), (117, B true), (118, Sl a1 l_ c1), (119, I k_111), (120, V (.pointer (some A123))), (121, V (.agg #[.int .i64 ((gi l_ k_111).Prc), .int .i64 ((gi l_ k_111).Kind), .int .i64 ((gi l_ k_111).Start), .int .i64 ((gi l_ k_111).End), .int .i64 ((gi l_ k_111).Result)])), (122, V (.agg #[.int .i64 ((gi l_ i_103).Prc), .int .i64 ((gi l_ i_103).Kind), .int .i64 ((gi l_ i_103).Start), .int .i64 ((gi l_ i_103).End), .int .i64 ((gi l_ i_103).Result)])), (123, B r129), (124, B (!r129)), (125, B (!r129))], [(6, (45, [I ((gi l_ i_103).Prc), I ((gi l_ i_103).Kind), I ((gi l_ i_103).Start), I ((gi l_ i_103).End), I ((gi l_ i_103).Result)]))]⟩
                exact ⟨ρ, _, (!r129), hm, hS.sl _, hO, h114⟩
               ·replace hS := hS.lit (t := 117) kr hb
                replace hm := hm.2 hb
                refine tk T [11, 12, 15, 13, 14, 16, 17, 18, 19, 20] [6] hS hH #[true, true, true, true, true, true, true, true, true, true, true, true, true, true, true, true, true, true, true, true, true] 0 ⟨[(0, Sl a1 l_ c1), (4, I i_103), (5, Pt 6 0), (6, B false), (7, I k_111), (109, Sl a1 l_ c1), (110, I k_111), (111, V (.pointer (some A118))), (112, V (.pointer (some A120))), (113, I ((gi l_ k_111).Prc)), (114, Pt 6 0), (115, I ((gi l_ i_103).Prc)), (116, B (((gi l_ k_111).Prc) == ((gi l_ i_103).Prc))), (117, B false), (118, V undef), (119, V undef), (120, V undef), (121, V undef), (122, V undef), (123, V undef), (124, V undef), (125, B false)], [(6, (45, [I ((gi l_ i_103).Prc), I ((gi l_ i_103).Kind), I ((gi l_ i_103).Start), I ((gi l_ i_103).End), I ((gi l_ i_103).Result)]))]⟩ fun a hS => ?_
                refine drawnDone kr ?_
                clear hD hH
                replace hS := hS.sl ⟨[(0, Sl a1 l_ c1), (4, I i_103), (5, Pt 6 0), (6, B false), (7, I k_111), (109, Sl a1 l_ c1), (110, I k_111), (111, V (.pointer (some A118))), (112, V (.pointer (some A120))), (113, I ((gi l_ k_111).Prc)), (114, Pt 6 0), (115, I ((gi l_ i_103).Prc)), (116, B (((gi l_ k_111).Prc) == ((gi l_ i_103).Prc))), (117, B false), (125, B false)], [(6, (45, [I ((gi l_ i_103).Prc), I ((gi l_ i_103).Kind), I ((gi l_ i_103).Start), I ((gi l_ i_103).End), I ((gi l_ i_103).Result)]))]⟩
                exact ⟨ρ, _, false, hm, hS.sl _, hO, h114⟩
           ·rintro a w147 ⟨ρ, χ146, open_113, hm, hS, hO, h112⟩
            unfold VC24_J3 at hm
            refine region (eP T hS ⟨[(0, Sl a1 l_ c1), (4, I i_103), (5, Pt 6 0), (6, B open_113), (7, I (IntKind.i64.wrap (k_111 + 1)))], [(6, (45, [I ((gi l_ i_103).Prc), I ((gi l_ i_103).Kind), I ((gi l_ i_103).Start), I ((gi l_ i_103).End), I ((gi l_ i_103).Result)]))]⟩ fun a hS => ?_)
            exact ⟨⟨open_113, IntKind.i64.wrap (k_111 + 1)⟩, ⟨ρ, _, hm.1, hS.sl _, hO, h112⟩, hm.2⟩
          ·replace hm := hm.2 hb
           refine wexit (by rfl) ?_
           exact ⟨ρ, _, open_110, hm, hS.sl _, hO, h109⟩
        ·rintro a w151 ⟨ρ, χ150, open_108, hm, hS, hO, h107⟩
         unfold VC24_J2 at hm
         refine rP T hS ⟨[(0, Sl a1 l_ c1), (4, I i_103), (127, B open_108)], []⟩ fun a hS => ?_
         refine wcond hS (b := open_108) kr (fun hb => ?_) (fun hb => ?_)
         ·replace hm := hm.1 hb
          refine rP T hS ⟨[(2, I i_103), (3, I 33)], []⟩ fun a hS => ?_
          refine wret ?_
          exact fin T hS hO (fun c => c) rfl (r := [.int .i64 i_103, .int .i64 33]) kr (fun χ' hM hC => ⟨(i_103, 33), hm, rfl⟩)
         ·replace hm := hm.2 hb
          refine wskip ?_
          refine region (eP T hS ⟨[(0, Sl a1 l_ c1), (4, I (IntKind.i64.wrap (i_103 + 1)))], []⟩ fun a hS => ?_)
          exact ⟨IntKind.i64.wrap (i_103 + 1), ⟨ρ, _, hm.1, hS.sl _, hO, h107⟩, hm.2⟩
    ·replace hm := hm.2 hb
     refine wexit (by rfl) ?_
     exact ⟨ρ, _, hm, hS.sl _, hO, h102⟩
  ·rintro a w157 ⟨ρ, χ156, hm, hS, hO, h101⟩
   unfold VC24_J1 at hm
   refine rP T hS ⟨[(2, I ((l_.length : Nat) : Int)), (3, I 0)], []⟩ fun a hS => ?_
   refine wret ?_
   exact fin T hS hO (fun c => c) rfl (r := [.int .i64 ((l_.length : Nat) : Int), .int .i64 0]) kr (fun χ' hM hC => ⟨(((l_.length : Nat) : Int), 0), hm, rfl⟩)
theorem C24 (k38 : S38) (k39 : S39) (v : ∀ (l_ : List Api_Oper), VC24 l_ (fun r => r = ref27_Check l_)) : S24 := by
 intro w χ l_ a1 c1   h1
 refine (W24 k38 k39 w χ l_ a1 c1   _ (v l_) h1).mono ?_
 rintro _ _ _ _ ⟨r, rfl, h⟩
 exact h
/-- replevin/replevinref30.Check -/
theorem W11 (k23 : S23) (k24 : S24) (w0 : World) (χ0 : Nat → Nat) (o_ : Api_Object) (l_ : List Api_Oper) (most : Int) (a1 : Option Addr) (c1 : Nat) (a2 : Option Addr) (c2 : Nat) (Q : Int → Prop) (hm : VC11 o_ l_ most Q) (h1 : RS tApi_Row w0 χ0 a1 o_.Rows c1) (h2 : RS tApi_Oper w0 χ0 a2 l_ c2) :
  Ret Try.prog 11 #[.agg #[.int .i64 o_.States, .int .i64 o_.Kinds, .int .i64 o_.Init, .slice a1 o_.Rows.length c1], .slice a2 l_.length c2, .int .i64 most] xnone w0 χ0 (fun w χ' v => ∃ r, Q r ∧ v = .int .i64 r) := by
 unfold VC11 at hm
 replace hm := hm (h1.sm kr)
 replace hm := hm (h2.sm kr)
 refine enter Try.func11 rfl (vals := [.agg #[.int .i64 o_.States, .int .i64 o_.Kinds, .int .i64 o_.Init, .slice a1 o_.Rows.length c1], .slice a2 l_.length c2, .int .i64 most]) kr ?_
 intro ρ a hS hO hM
 replace h1 := h1.m0 hM
 replace h2 := h2.m0 hM
 clear hM
 refine rM T hS ⟨[(1, Sl a2 l_ c2), (2, I most), (3, Pt 4 0)], [(4, (24, [I o_.States, I o_.Kinds, I o_.Init, Sl a1 o_.Rows c1]))]⟩ fun ρ a w109 χ110 hS hE hr => ?_
 replace hO := hO.mv hE rfl rfl
 replace h1 := h1.mv hE rfl
 replace h2 := h2.mv hE rfl
 clear hE hr
 refine regO ?_
 refine oP T hS 1 ⟨[(1, Sl a2 l_ c2), (2, I most), (12, V (.agg #[.int .i64 o_.States, .int .i64 o_.Kinds, .int .i64 o_.Init, .slice a1 o_.Rows.length c1]))], []⟩ fun a hS => ?_
 refine op1 (call hS kr kr hb23 kr (fun _ _ => rfl) (k23 _ _ o_ a1 c1 h1) ?_)
 intro v101 a w102 χ103 hE hp hS
 replace hO := hO.mv hE rfl rfl
 replace h1 := h1.mv hE rfl
 replace h2 := h2.mv hE rfl
 clear hE
 obtain ⟨r104, hr⟩ : ∃ r, ref23_Check o_ = r := ⟨_, rfl⟩
 replace hm := hm r104 hr
 rw [hr] at hp
 clear hr
 subst hp
 refine eP T hS ⟨[(1, Sl a2 l_ c2), (2, I most), (8, I r104.2)], []⟩ fun a hS => ?_
 refine regO ?_
 refine oP T hS 1 ⟨[(1, Sl a2 l_ c2), (2, I most), (8, I r104.2), (17, Sl a2 l_ c2)], []⟩ fun a hS => ?_
 refine op1 (call hS kr kr hb24 kr (fun _ _ => rfl) (k24 _ _ l_ a2 c2 h2) ?_)
 intro v105 a w106 χ107 hE hp hS
 replace hO := hO.mv hE rfl rfl
 replace h2 := h2.mv hE rfl
 clear hE
 obtain ⟨r108, hr⟩ : ∃ r, ref27_Check l_ = r := ⟨_, rfl⟩
 replace hm := hm r108 hr
 rw [hr] at hp
 clear hr
 subst hp
 refine eP T hS ⟨[(1, Sl a2 l_ c2), (2, I most), (8, I r104.2), (10, I r108.2)], []⟩ fun a hS => ?_
 refine wseq ?_
 refine rP T hS ⟨[(1, Sl a2 l_ c2), (2, I most), (26, B ((r104.2 != 0) || (r108.2 != 0)))], []⟩ (sp := [23]) fun a hS => ?_
 refine wcond hS (b := ((r104.2 != 0) || (r108.2 != 0))) kr (fun hb => ?_) (fun hb => ?_)
 ·replace hm := hm.1 hb
  refine rP T hS ⟨[(6, I 2)], []⟩ fun a hS => ?_
  refine wret ?_
  exact fin T hS hO (fun c => c) rfl (r := [.int .i64 2]) kr (fun χ' hM hC => ⟨2, hm, rfl⟩)
 ·replace hm := hm.2 hb
  refine wskip ?_
  refine wseq ?_
  refine rP T hS ⟨[(30, B (decide (((l_.length : Nat) : Int) > most)))], []⟩ fun a hS => ?_
  refine wcond hS (b := decide (((l_.length : Nat) : Int) > most)) kr (fun hb => ?_) (fun hb => ?_)
  ·replace hm := hm.1 hb
   refine rP T hS ⟨[(6, I 3)], []⟩ fun a hS => ?_
   refine wret ?_
   exact fin T hS hO (fun c => c) rfl (r := [.int .i64 3]) kr (fun χ' hM hC => ⟨3, hm, rfl⟩)
  ·replace hm := hm.2 hb
   refine wskip ?_
   refine rP T hS ⟨[(6, I 0)], []⟩ fun a hS => ?_
   refine wret ?_
   exact fin T hS hO (fun c => c) rfl (r := [.int .i64 0]) kr (fun χ' hM hC => ⟨0, hm, rfl⟩)
theorem C11 (k23 : S23) (k24 : S24) (v : ∀ (o_ : Api_Object) (l_ : List Api_Oper) (most : Int), VC11 o_ l_ most (fun r => r = ref30_Check o_ l_ most)) : S11 := by
 intro w χ o_ l_ most a1 c1 a2 c2   h1 h2
 refine (W11 k23 k24 w χ o_ l_ most a1 c1 a2 c2   _ (v o_ l_ most) h1 h2).mono ?_
 rintro _ _ _ _ ⟨r, rfl, h⟩
 exact h
/-- replevin/replevinref30.Orders -/
theorem W25 (w0 : World) (χ0 : Nat → Nat) (n_ : Int) (Q : (List (List Int)) → Prop) (hm : VC25 n_ Q) :
  Ret Try.prog 25 #[.int .i64 n_] xnone w0 χ0 (fun w χ' v => ∃ r, Q r ∧ ∃ (ra1 : Option Addr) (rc1 : Nat), v = .slice ra1 r.length rc1 ∧ RS (tSlice tI) w χ' ra1 r rc1) := by
 unfold VC25 at hm
 refine enter Try.func25 rfl (vals := [.int .i64 n_]) kr ?_
 intro ρ a hS hO hM
 clear hM
 refine rP T hS ⟨[(0, I n_)], []⟩ fun a hS => ?_
 refine regO ?_
 refine op1 (lit (E := 64) (col := 1003) (T := (tSlice tI)) (vals := [.slice none 0 0]) (ys := ([[]] : List (List Int))) T hS kr kr kr kr (by exact ⟨⟨none, 0, rfl, RS.empty _ _ _⟩, trivial⟩) rfl kr kr kr kr ?_)
 intro b101 a w102 χ103 hE h104 hN hS
 clear hN
 replace hO := hO.mv hE rfl rfl
 clear hE
 refine eP T hS ⟨[(0, I n_), (3, Sl (some ⟨b101, 0, none⟩) ([[]] : List (List Int)) 1)], []⟩ fun a hS => ?_
 refine regO ?_
 refine op1 (lit (E := 64) (col := 0) (T := (tSlice tI)) (vals := [.slice none 0 0]) (ys := ([[]] : List (List Int))) T hS kr kr kr kr (by exact ⟨⟨none, 0, rfl, RS.empty _ _ _⟩, trivial⟩) rfl kr kr kr kr ?_)
 intro b105 a w106 χ107 hE h108 hN hS
 clear hN
 replace hO := hO.mv hE rfl rfl
 replace h104 := h104.mv hE rfl rfl
 clear hE
 replace h108 := h108.rs0
 refine eP T hS ⟨[(0, I n_), (3, Sl (some ⟨b101, 0, none⟩) ([[]] : List (List Int)) 1), (4, Sl (some ⟨b105, 0, none⟩) ([[]] : List (List Int)) 1)], []⟩ fun a hS => ?_
 refine wcut (fun a w => ∃ (ρ : Nat → Nat) (χ : Nat → Nat) (out_109 : List (List Int)) (a110 : Option Addr) (c111 : Nat), VC25_J1 Q out_109 ∧ St Try.f25.ntmps ⟨[(3, Sl a110 out_109 c111)], []⟩ ρ a w χ ∧ Old w0 χ0 w χ ∧ OS (tSlice tI) 64 w χ 1003 a110 out_109 c111) ?_ ?_
 ·refine wblock ?_
  obtain ⟨I1, μ1, hm0, hm⟩ := hm
  refine wloop (σ := (List (List Int)) × (List (List Int))) (fun s a w => ∃ (ρ : Nat → Nat) (χ : Nat → Nat) (a116 : Option Addr) (c117 : Nat) (a120 : Option Addr) (c121 : Nat), I1 s.1 s.2 ∧ St Try.f25.ntmps ⟨[(0, I n_), (3, Sl a116 s.1 c117), (4, Sl a120 s.2 c121)], []⟩ ρ a w χ ∧ Old w0 χ0 w χ ∧ OS (tSlice tI) 64 w χ 1003 a116 s.1 c117 ∧ RS (tSlice tI) w χ a120 s.2 c121) (fun s => μ1 s.1 s.2) (⟨([[]] : List (List Int)), ([[]] : List (List Int))⟩) ?_ ?_
  ·exact ⟨ρ, _, (some ⟨b101, 0, none⟩), 1, (some ⟨b105, 0, none⟩), 1, hm0, hS.sl _, hO, h104, h108⟩
  ·rintro ⟨out_115, last_119⟩ a w274 ⟨ρ, χ273, a116, c117, a120, c121, hI, hS, hO, h118, h122⟩
   replace hm := hm out_115 last_119 hI
   clear hI hm0
   refine wseq ?_
   refine rP T hS ⟨[(0, I n_), (3, Sl a116 out_115 c117), (4, Sl a120 last_119 c121), (14, B (decide (((last_119.length : Nat) : Int) > 0)))], []⟩ fun a hS => ?_
   refine wcond hS (b := decide (((last_119.length : Nat) : Int) > 0)) kr (fun hb => ?_) (fun hb => ?_)
   ·replace hm := hm.1 hb
    refine wskip ?_
    refine wblock ?_
    refine rP T hS ⟨[(0, I n_), (3, Sl a116 out_115 c117), (4, Sl a120 last_119 c121), (5, V (.slice none 0 0))], []⟩ fun a hS => ?_
    refine wcut (fun a w => ∃ (ρ : Nat → Nat) (χ : Nat → Nat) (out_123 : List (List Int)) (next_127 : List (List Int)) (a124 : Option Addr) (c125 : Nat) (a128 : Option Addr) (c129 : Nat), VC25_J2 I1 μ1 out_115 last_119 out_123 next_127 ∧ St Try.f25.ntmps ⟨[(0, I n_), (3, Sl a124 out_123 c125), (5, Sl a128 next_127 c129)], []⟩ ρ a w χ ∧ Old w0 χ0 w χ ∧ OS (tSlice tI) 64 w χ 1003 a124 out_123 c125 ∧ OS (tSlice tI) 64 w χ 1006 a128 next_127 c129) ?_ ?_
    ·refine rP T hS ⟨[(0, I n_), (3, Sl a116 out_115 c117), (4, Sl a120 last_119 c121), (5, V (.slice none 0 0)), (6, I 0)], []⟩ fun a hS => ?_
     refine wblock ?_
     obtain ⟨I2, μ2, hm0, hm⟩ := hm
     refine wloop (σ := (List (List Int)) × (List (List Int)) × Int) (fun s a w => ∃ (ρ : Nat → Nat) (χ : Nat → Nat) (a139 : Option Addr) (c140 : Nat) (a144 : Option Addr) (c145 : Nat), I2 s.1 s.2.1 s.2.2 ∧ St Try.f25.ntmps ⟨[(0, I n_), (3, Sl a139 s.1 c140), (4, Sl a120 last_119 c121), (5, Sl a144 s.2.1 c145), (6, I s.2.2)], []⟩ ρ a w χ ∧ Old w0 χ0 w χ ∧ OS (tSlice tI) 64 w χ 1003 a139 s.1 c140 ∧ RS (tSlice tI) w χ a120 last_119 c121 ∧ OS (tSlice tI) 64 w χ 1006 a144 s.2.1 c145) (fun s => μ2 s.1 s.2.1 s.2.2) (⟨out_115, [], 0⟩) ?_ ?_
     ·exact ⟨ρ, _, a116, c117, none, 0, hm0, hS.sl _, hO, h118, h122, (OS.nil _ _ _ _ _)⟩
     ·rintro ⟨out_138, next_143, i_147⟩ a w270 ⟨ρ, χ269, a139, c140, a144, c145, hI, hS, hO, h141, h142, h146⟩
      replace hm := hm out_138 next_143 i_147 hI
      clear hI hm0
      refine wseq ?_
      refine rP T hS ⟨[(0, I n_), (3, Sl a139 out_138 c140), (4, Sl a120 last_119 c121), (5, Sl a144 next_143 c145), (6, I i_147), (18, B (decide (i_147 < ((last_119.length : Nat) : Int))))], []⟩ fun a hS => ?_
      refine wcond hS (b := decide (i_147 < ((last_119.length : Nat) : Int))) kr (fun hb => ?_) (fun hb => ?_)
      ·replace hm := hm.1 hb
       refine wskip ?_
       refine wcut (fun a w => ∃ (ρ : Nat → Nat) (χ : Nat → Nat) (out_148 : List (List Int)) (next_153 : List (List Int)) (a149 : Option Addr) (c150 : Nat) (a154 : Option Addr) (c155 : Nat), VC25_J3 I2 μ2 out_138 next_143 i_147 out_148 next_153 ∧ St Try.f25.ntmps ⟨[(0, I n_), (3, Sl a149 out_148 c150), (4, Sl a120 last_119 c121), (5, Sl a154 next_153 c155), (6, I i_147)], []⟩ ρ a w χ ∧ Old w0 χ0 w χ ∧ OS (tSlice tI) 64 w χ 1003 a149 out_148 c150 ∧ RS (tSlice tI) w χ a120 last_119 c121 ∧ OS (tSlice tI) 64 w χ 1006 a154 next_153 c155) ?_ ?_
       ·refine wblock ?_
        refine rP T hS ⟨[(0, I n_), (3, Sl a139 out_138 c140), (4, Sl a120 last_119 c121), (5, Sl a144 next_143 c145), (6, I i_147), (7, I 0)], []⟩ fun a hS => ?_
        refine wblock ?_
        obtain ⟨I3, μ3, hm0, hm⟩ := hm
        refine wloop (σ := (List (List Int)) × (List (List Int)) × Int) (fun s a w => ∃ (ρ : Nat → Nat) (χ : Nat → Nat) (a158 : Option Addr) (c159 : Nat) (a163 : Option Addr) (c164 : Nat), I3 s.1 s.2.1 s.2.2 ∧ St Try.f25.ntmps ⟨[(0, I n_), (3, Sl a158 s.1 c159), (4, Sl a120 last_119 c121), (5, Sl a163 s.2.1 c164), (6, I i_147), (7, I s.2.2)], []⟩ ρ a w χ ∧ Old w0 χ0 w χ ∧ OS (tSlice tI) 64 w χ 1003 a158 s.1 c159 ∧ RS (tSlice tI) w χ a120 last_119 c121 ∧ OS (tSlice tI) 64 w χ 1006 a163 s.2.1 c164) (fun s => μ3 s.1 s.2.1 s.2.2) (⟨out_138, next_143, 0⟩) ?_ ?_
        ·exact ⟨ρ, _, a139, c140, a144, c145, hm0, hS.sl _, hO, h141, h142, h146⟩
        ·rintro ⟨out_157, next_162, k_166⟩ a w266 ⟨ρ, χ265, a158, c159, a163, c164, hI, hS, hO, h160, h161, h165⟩
         replace hm := hm out_157 next_162 k_166 hI
         clear hI hm0
         refine wseq ?_
         refine rP T hS ⟨[(0, I n_), (3, Sl a158 out_157 c159), (4, Sl a120 last_119 c121), (5, Sl a163 next_162 c164), (6, I i_147), (7, I k_166), (23, B (decide (k_166 < n_)))], []⟩ fun a hS => ?_
         refine wcond hS (b := decide (k_166 < n_)) kr (fun hb => ?_) (fun hb => ?_)
         ·replace hm := hm.1 hb
          refine wskip ?_
          refine wcut (fun a w => ∃ (ρ : Nat → Nat) (χ : Nat → Nat) (out_167 : List (List Int)) (next_172 : List (List Int)) (a168 : Option Addr) (c169 : Nat) (a173 : Option Addr) (c174 : Nat), VC25_J4 I3 μ3 out_157 next_162 k_166 out_167 next_172 ∧ St Try.f25.ntmps ⟨[(0, I n_), (3, Sl a168 out_167 c169), (4, Sl a120 last_119 c121), (5, Sl a173 next_172 c174), (6, I i_147), (7, I k_166)], []⟩ ρ a w χ ∧ Old w0 χ0 w χ ∧ OS (tSlice tI) 64 w χ 1003 a168 out_167 c169 ∧ RS (tSlice tI) w χ a120 last_119 c121 ∧ OS (tSlice tI) 64 w χ 1006 a173 next_172 c174) ?_ ?_
          ·refine wblock ?_
           refine rP T hS ⟨[(0, I n_), (3, Sl a158 out_157 c159), (4, Sl a120 last_119 c121), (5, Sl a163 next_162 c164), (6, I i_147), (7, I k_166), (8, B false)], []⟩ fun a hS => ?_
           refine wcut (fun a w => ∃ (ρ : Nat → Nat) (χ : Nat → Nat) (out_176 : List (List Int)) (next_181 : List (List Int)) (had_185 : Bool) (a177 : Option Addr) (c178 : Nat) (a182 : Option Addr) (c183 : Nat), VC25_J5 last_119 i_147 I3 μ3 out_157 next_162 k_166 out_176 next_181 had_185 ∧ St Try.f25.ntmps ⟨[(0, I n_), (3, Sl a177 out_176 c178), (4, Sl a120 last_119 c121), (5, Sl a182 next_181 c183), (6, I i_147), (7, I k_166), (8, B had_185)], []⟩ ρ a w χ ∧ Old w0 χ0 w χ ∧ OS (tSlice tI) 64 w χ 1003 a177 out_176 c178 ∧ RS (tSlice tI) w χ a120 last_119 c121 ∧ OS (tSlice tI) 64 w χ 1006 a182 next_181 c183) ?_ ?_
           ·refine rP T hS ⟨[(0, I n_), (3, Sl a158 out_157 c159), (4, Sl a120 last_119 c121), (5, Sl a163 next_162 c164), (6, I i_147), (7, I k_166), (8, B false), (9, I 0)], []⟩ fun a hS => ?_
            refine wblock ?_
            obtain ⟨I4, μ4, hm0, hm⟩ := hm
            refine wloop (σ := (List (List Int)) × (List (List Int)) × Bool × Int) (fun s a w => ∃ (ρ : Nat → Nat) (χ : Nat → Nat) (a222 : Option Addr) (c223 : Nat) (a227 : Option Addr) (c228 : Nat), I4 s.1 s.2.1 s.2.2.1 s.2.2.2 ∧ St Try.f25.ntmps ⟨[(0, I n_), (3, Sl a222 s.1 c223), (4, Sl a120 last_119 c121), (5, Sl a227 s.2.1 c228), (6, I i_147), (7, I k_166), (8, B s.2.2.1), (9, I s.2.2.2)], []⟩ ρ a w χ ∧ Old w0 χ0 w χ ∧ OS (tSlice tI) 64 w χ 1003 a222 s.1 c223 ∧ RS (tSlice tI) w χ a120 last_119 c121 ∧ OS (tSlice tI) 64 w χ 1006 a227 s.2.1 c228) (fun s => μ4 s.1 s.2.1 s.2.2.1 s.2.2.2) (⟨out_157, next_162, false, 0⟩) ?_ ?_
            ·exact ⟨ρ, _, a158, c159, a163, c164, hm0, hS.sl _, hO, h160, h161, h165⟩
            ·rintro ⟨out_221, next_226, had_230, j_231⟩ a w260 ⟨ρ, χ259, a222, c223, a227, c228, hI, hS, hO, h224, h225, h229⟩
             replace hm := hm out_221 next_226 had_230 j_231 hI
             clear hI hm0
             refine wseq ?_
             refine regO ?_
             refine oP T hS 3 ⟨[(0, I n_), (3, Sl a222 out_221 c223), (4, Sl a120 last_119 c121), (5, Sl a227 next_226 c228), (6, I i_147), (7, I k_166), (8, B had_230), (9, I j_231), (26, I j_231), (27, Sl a120 last_119 c121), (28, I i_147)], []⟩ fun a hS => ?_
             obtain ⟨hq, hm⟩ := hm
             refine op1 (index (e := 64) (k := .i64) T hS kr kr kr kr h225 kr kr hq.1 hq.2 ?_)
             intro A232 a h233 hS
             clear hq
             refine op1 (load1 T hS kr kr kr h233 rfl kr ?_)
             intro v234 a hv hS
             obtain ⟨a235, c236, hv, h237⟩ := hv
             cases hv
             replace hm := hm (h237.sm kr)
             refine eP T hS ⟨[(0, I n_), (3, Sl a222 out_221 c223), (4, Sl a120 last_119 c121), (5, Sl a227 next_226 c228), (6, I i_147), (7, I k_166), (8, B had_230), (9, I j_231), (32, B (decide (j_231 < (((gi last_119 i_147).length : Nat) : Int))))], []⟩ fun a hS => ?_
             refine wcond hS (b := decide (j_231 < (((gi last_119 i_147).length : Nat) : Int))) kr (fun hb => ?_) (fun hb => ?_)
             ·replace hm := hm.1 hb
              refine wskip ?_
              refine wcut (fun a w => ∃ (ρ : Nat → Nat) (χ : Nat → Nat) (out_238 : List (List Int)) (next_243 : List (List Int)) (had_247 : Bool) (a239 : Option Addr) (c240 : Nat) (a244 : Option Addr) (c245 : Nat), VC25_J6 I4 μ4 out_221 next_226 had_230 j_231 out_238 next_243 had_247 ∧ St Try.f25.ntmps ⟨[(0, I n_), (3, Sl a239 out_238 c240), (4, Sl a120 last_119 c121), (5, Sl a244 next_243 c245), (6, I i_147), (7, I k_166), (8, B had_247), (9, I j_231)], []⟩ ρ a w χ ∧ Old w0 χ0 w χ ∧ OS (tSlice tI) 64 w χ 1003 a239 out_238 c240 ∧ RS (tSlice tI) w χ a120 last_119 c121 ∧ OS (tSlice tI) 64 w χ 1006 a244 next_243 c245) ?_ ?_
              ·refine wblock ?_
               refine region ?_
               refine oP T hS 2 ⟨[(0, I n_), (3, Sl a222 out_221 c223), (4, Sl a120 last_119 c121), (5, Sl a227 next_226 c228), (6, I i_147), (7, I k_166), (8, B had_230), (9, I j_231), (36, B had_230)], []⟩ fun a hS => ?_
               rcases Bool.eq_false_or_eq_true had_230 with hb | hb
               ·replace hS := hS.lit (t := 36) kr hb
                replace hm := hm.1 hb
                refine eP T hS ⟨[(0, I n_), (3, Sl a222 out_221 c223), (4, Sl a120 last_119 c121), (5, Sl a227 next_226 c228), (6, I i_147), (7, I k_166), (8, B true), (9, I j_231)], []⟩ fun a hS => ?_
                exact ⟨ρ, _, out_221, next_226, true, a222, c223, a227, c228, hm, hS.sl _, hO, h224, h225, h229⟩
               ·replace hS := hS.lit (t := 36) kr hb
                replace hm := hm.2 hb
                refine oP T hS 2 ⟨[(0, I n_), (3, Sl a222 out_221 c223), (4, Sl a120 last_119 c121), (5, Sl a227 next_226 c228), (6, I i_147), (7, I k_166), (8, B had_230), (9, I j_231), (36, B false), (37, Sl a120 last_119 c121), (38, I i_147)], []⟩ fun a hS => ?_
                obtain ⟨hq, hm⟩ := hm
                refine op1 (index (e := 64) (k := .i64) T hS kr kr kr kr h225 kr kr hq.1 hq.2 ?_)
                intro A248 a h249 hS
                clear hq
                refine op1 (load1 T hS kr kr kr h249 rfl kr ?_)
                intro v250 a hv hS
                obtain ⟨a251, c252, hv, h253⟩ := hv
                cases hv
                replace hm := hm (h253.sm kr)
                refine oP T hS 1 ⟨[(0, I n_), (3, Sl a222 out_221 c223), (4, Sl a120 last_119 c121), (5, Sl a227 next_226 c228), (6, I i_147), (7, I k_166), (8, B had_230), (9, I j_231), (36, B false), (37, Sl a120 last_119 c121), (38, I i_147), (39, V (.pointer (some A248))), (40, Sl a251 (gi last_119 i_147) c252), (41, I j_231)], []⟩ fun a hS => ?_
                obtain ⟨hq, hm⟩ := hm
                refine op1 (index (e := 3) (k := .i64) T hS kr kr kr kr h253 kr kr hq.1 hq.2 ?_)
                intro A254 a h255 hS
                clear hq
                refine op1 (load1 T hS kr kr kr h255 rfl kr ?_)
                intro v256 a hv hS
                cases hv
                refine eP T hS ⟨[(0, I n_), (3, Sl a222 out_221 c223), (4, Sl a120 last_119 c121), (5, Sl a227 next_226 c228), (6, I i_147), (7, I k_166), (8, B ((gi (gi last_119 i_147) j_231) == k_166)), (9, I j_231), (37, Sl a120 last_119 c121), (38, I i_147), (39, V (.pointer (some A248))), (40, Sl a251 (gi last_119 i_147) c252), (41, I j_231), (42, V (.pointer (some A254))), (43, I (gi (gi last_119 i_147) j_231)), (44, I k_166), (45, B ((gi (gi last_119 i_147) j_231) == k_166))], []⟩ fun a hS => ?_
                exact ⟨ρ, _, out_221, next_226, ((gi (gi last_119 i_147) j_231) == k_166), a222, c223, a227, c228, hm, hS.sl _, hO, h224, h225, h229⟩
              ·rintro a w258 ⟨ρ, χ257, out_238, next_243, had_247, a239, c240, a244, c245, hm, hS, hO, h241, h242, h246⟩
               unfold VC25_J6 at hm
               refine region (eP T hS ⟨[(0, I n_), (3, Sl a239 out_238 c240), (4, Sl a120 last_119 c121), (5, Sl a244 next_243 c245), (6, I i_147), (7, I k_166), (8, B had_247), (9, I (IntKind.i64.wrap (j_231 + 1)))], []⟩ fun a hS => ?_)
               exact ⟨⟨out_238, next_243, had_247, IntKind.i64.wrap (j_231 + 1)⟩, ⟨ρ, _, a239, c240, a244, c245, hm.1, hS.sl _, hO, h241, h242, h246⟩, hm.2⟩
             ·replace hm := hm.2 hb
              refine wexit (by rfl) ?_
              exact ⟨ρ, _, out_221, next_226, had_230, a222, c223, a227, c228, hm, hS.sl _, hO, h224, h225, h229⟩
           ·rintro a w262 ⟨ρ, χ261, out_176, next_181, had_185, a177, c178, a182, c183, hm, hS, hO, h179, h180, h184⟩
            unfold VC25_J5 at hm
            refine rP T hS ⟨[(0, I n_), (3, Sl a177 out_176 c178), (4, Sl a120 last_119 c121), (5, Sl a182 next_181 c183), (6, I i_147), (7, I k_166), (48, B (!had_185))], []⟩ fun a hS => ?_
            refine wcond hS (b := (!had_185)) kr (fun hb => ?_) (fun hb => ?_)
            ·replace hm := hm.1 hb
             refine region ?_
             refine oP T hS 1 ⟨[(0, I n_), (3, Sl a177 out_176 c178), (4, Sl a120 last_119 c121), (5, Sl a182 next_181 c183), (6, I i_147), (7, I k_166), (49, Sl a182 next_181 c183)], []⟩ fun a hS => ?_
             refine op1 (lit (E := 3) (col := 1051) (T := tI) (vals := []) (ys := ([] : List Int)) T hS kr kr kr kr trivial rfl kr kr kr kr ?_)
             intro b186 a w187 χ188 hE h189 hN hS
             clear hN
             replace hO := hO.mv hE rfl rfl
             replace h179 := h179.mv hE rfl rfl
             replace h180 := h180.mv hE rfl
             replace h184 := h184.mv hE rfl rfl
             clear hE
             refine oP T hS 2 ⟨[(0, I n_), (3, Sl a177 out_176 c178), (4, Sl a120 last_119 c121), (5, Sl a182 next_181 c183), (6, I i_147), (7, I k_166), (49, Sl a182 next_181 c183), (50, Sl (some ⟨b186, 0, none⟩) ([] : List Int) 0), (51, Sl a120 last_119 c121), (52, I i_147)], []⟩ fun a hS => ?_
             obtain ⟨hq, hm⟩ := hm
             refine op1 (index (e := 64) (k := .i64) T hS kr kr kr kr h180 kr kr hq.1 hq.2 ?_)
             intro A190 a h191 hS
             clear hq
             refine op1 (load1 T hS kr kr kr h191 rfl kr ?_)
             intro v192 a hv hS
             obtain ⟨a193, c194, hv, h195⟩ := hv
             cases hv
             replace hm := hm (h195.sm kr)
             obtain ⟨hq, hm⟩ := hm
             obtain ⟨news, hN⟩ := h195.src
             refine op1 (append (E := 3) (T := tI) (col := 1051) (xs := ([] : List Int)) T hS kr kr kr kr h189 hN kr kr kr kr hq ?_)
             intro a199 c200 a w196 χ197 hE h198 hS
             clear hq hN
             clear h189
             replace hO := hO.mv hE rfl rfl
             replace h179 := h179.mv hE rfl rfl
             replace h180 := h180.mv hE rfl
             replace h184 := h184.mv hE rfl rfl
             replace h191 := h191.mv hE rfl
             replace h195 := h195.mv hE rfl
             clear hE
             refine oP T hS 1 ⟨[(0, I n_), (3, Sl a177 out_176 c178), (4, Sl a120 last_119 c121), (5, Sl a182 next_181 c183), (6, I i_147), (7, I k_166), (49, Sl a182 next_181 c183), (55, Sl a199 (([] : List Int) ++ (gi last_119 i_147)) c200), (56, I k_166)], []⟩ fun a hS => ?_
             refine op1 (lit (E := 3) (col := 0) (T := tI) (vals := [.int .i64 k_166]) (ys := [k_166]) T hS kr kr kr kr (by exact ⟨rfl, trivial⟩) rfl kr kr kr kr ?_)
             intro b201 a w202 χ203 hE h204 hN hS
             clear hN
             replace hO := hO.mv hE rfl rfl
             replace h179 := h179.mv hE rfl rfl
             replace h180 := h180.mv hE rfl
             replace h184 := h184.mv hE rfl rfl
             replace h198 := h198.mv hE rfl rfl
             clear hE
             replace h204 := h204.rs0
             obtain ⟨hq, hm⟩ := hm
             obtain ⟨news, hN⟩ := h204.src
             refine op1 (append (E := 3) (T := tI) (col := 1051) (xs := ([] : List Int) ++ (gi last_119 i_147)) T hS kr kr kr kr h198 hN kr kr kr kr hq ?_)
             intro a208 c209 a w205 χ206 hE h207 hS
             clear hq hN
             clear h198
             replace hO := hO.mv hE rfl rfl
             replace h179 := h179.mv hE rfl rfl
             replace h180 := h180.mv hE rfl
             replace h184 := h184.mv hE rfl rfl
             replace h204 := h204.mv hE rfl
             clear hE
             obtain ⟨χ210, hE, hF⟩ := h207.freeze (by decide)
             replace hS := hS.ev hE (xone_box kr)
             replace hO := hO.mv hE rfl rfl
             replace h179 := h179.mv hE rfl rfl
             replace h180 := h180.mv hE rfl
             replace h184 := h184.mv hE rfl rfl
             replace h204 := h204.mv hE rfl
             have h211 := hF; clear hE hF
             refine op1 (lit (E := 64) (col := 0) (T := (tSlice tI)) (vals := [.slice a208 ((([] : List Int) ++ (gi last_119 i_147)) ++ [k_166]).length c209]) (ys := [(([] : List Int) ++ (gi last_119 i_147)) ++ [k_166]]) T hS kr kr kr kr (by exact ⟨⟨a208, c209, rfl, h211⟩, trivial⟩) rfl kr kr kr kr ?_)
             intro b212 a w213 χ214 hE h215 hN hS
             clear hN
             replace hO := hO.mv hE rfl rfl
             replace h179 := h179.mv hE rfl rfl
             replace h180 := h180.mv hE rfl
             replace h184 := h184.mv hE rfl rfl
             replace h204 := h204.mv hE rfl
             replace h211 := h211.mv hE rfl
             clear hE
             replace h215 := h215.rs0
             obtain ⟨hq, hm⟩ := hm
             obtain ⟨news, hN⟩ := h215.src
             refine op1 (append (E := 64) (T := (tSlice tI)) (col := 1006) (xs := next_181) T hS kr kr kr kr h184 hN kr kr kr kr hq ?_)
             intro a219 c220 a w216 χ217 hE h218 hS
             clear hq hN
             clear h184
             replace hO := hO.mv hE rfl rfl
             replace h179 := h179.mv hE rfl rfl
             replace h180 := h180.mv hE rfl
             replace h204 := h204.mv hE rfl
             replace h211 := h211.mv hE rfl
             replace h215 := h215.mv hE rfl
             clear hE
             refine eP T hS ⟨[(0, I n_), (3, Sl a177 out_176 c178), (4, Sl a120 last_119 c121), (5, Sl a219 (next_181 ++ [(([] : List Int) ++ (gi last_119 i_147)) ++ [k_166]]) c220), (6, I i_147), (7, I k_166)], []⟩ fun a hS => ?_
             exact ⟨ρ, _, out_176, next_181 ++ [(([] : List Int) ++ (gi last_119 i_147)) ++ [k_166]], a177, c178, a219, c220, hm, hS.sl _, hO, h179, h180, h218⟩
            ·replace hm := hm.2 hb
             refine wskip ?_
             exact ⟨ρ, _, out_176, next_181, a177, c178, a182, c183, hm, hS.sl _, hO, h179, h180, h184⟩
          ·rintro a w264 ⟨ρ, χ263, out_167, next_172, a168, c169, a173, c174, hm, hS, hO, h170, h171, h175⟩
           unfold VC25_J4 at hm
           refine region (eP T hS ⟨[(0, I n_), (3, Sl a168 out_167 c169), (4, Sl a120 last_119 c121), (5, Sl a173 next_172 c174), (6, I i_147), (7, I (IntKind.i64.wrap (k_166 + 1)))], []⟩ fun a hS => ?_)
           exact ⟨⟨out_167, next_172, IntKind.i64.wrap (k_166 + 1)⟩, ⟨ρ, _, a168, c169, a173, c174, hm.1, hS.sl _, hO, h170, h171, h175⟩, hm.2⟩
         ·replace hm := hm.2 hb
          refine wexit (by rfl) ?_
          exact ⟨ρ, _, out_157, next_162, a158, c159, a163, c164, hm, hS.sl _, hO, h160, h161, h165⟩
       ·rintro a w268 ⟨ρ, χ267, out_148, next_153, a149, c150, a154, c155, hm, hS, hO, h151, h152, h156⟩
        unfold VC25_J3 at hm
        refine region (eP T hS ⟨[(0, I n_), (3, Sl a149 out_148 c150), (4, Sl a120 last_119 c121), (5, Sl a154 next_153 c155), (6, I (IntKind.i64.wrap (i_147 + 1)))], []⟩ fun a hS => ?_)
        exact ⟨⟨out_148, next_153, IntKind.i64.wrap (i_147 + 1)⟩, ⟨ρ, _, a149, c150, a154, c155, hm.1, hS.sl _, hO, h151, h152, h156⟩, hm.2⟩
      ·replace hm := hm.2 hb
       refine wexit (by rfl) ?_
       exact ⟨ρ, _, out_138, next_143, a139, c140, a144, c145, hm, hS.sl _, hO, h141, h146⟩
    ·rintro a w272 ⟨ρ, χ271, out_123, next_127, a124, c125, a128, c129, hm, hS, hO, h126, h130⟩
     unfold VC25_J2 at hm
     refine regO ?_
     refine oP T hS 2 ⟨[(0, I n_), (3, Sl a124 out_123 c125), (5, Sl a128 next_127 c129), (61, Sl a124 out_123 c125), (62, Sl a128 next_127 c129)], []⟩ fun a hS => ?_
     obtain ⟨hq, hm⟩ := hm
     obtain ⟨news, hN⟩ := h130.src
     refine op1 (append (E := 64) (T := (tSlice tI)) (col := 1003) (xs := out_123) T hS kr kr kr kr h126 hN kr kr kr kr hq ?_)
     intro a134 c135 a w131 χ132 hE h133 hS
     clear hq hN
     clear h126
     replace hO := hO.mv hE rfl rfl
     replace h130 := h130.mv hE rfl rfl
     clear hE
     refine eP T hS ⟨[(0, I n_), (3, Sl a134 (out_123 ++ next_127) c135), (5, Sl a128 next_127 c129)], []⟩ fun a hS => ?_
     refine region ?_
     refine oP T hS 1 ⟨[(0, I n_), (3, Sl a134 (out_123 ++ next_127) c135), (64, Sl a128 next_127 c129)], []⟩ fun a hS => ?_
     obtain ⟨χ136, hE, hF⟩ := h130.freeze (by decide)
     replace hS := hS.ev hE (xone_box kr)
     replace hO := hO.mv hE rfl rfl
     replace h133 := h133.mv hE rfl rfl
     have h137 := hF; clear hE hF
     refine op1 (plain1 T hS kr kr kr (sv := Sl a128 next_127 c129) kr ?_)
     intro a hS
     refine doneK ?_
     exact ⟨⟨out_123 ++ next_127, next_127⟩, ⟨ρ, _, a134, c135, a128, c129, hm.1, hS.sl _, hO, h133, h137⟩, hm.2⟩
   ·replace hm := hm.2 hb
    refine wexit (by rfl) ?_
    exact ⟨ρ, _, out_115, a116, c117, hm, hS.sl _, hO, h118⟩
 ·rintro a w276 ⟨ρ, χ275, out_109, a110, c111, hm, hS, hO, h112⟩
  unfold VC25_J1 at hm
  refine rP T hS ⟨[(2, Sl a110 out_109 c111)], []⟩ fun a hS => ?_
  refine wret ?_
  obtain ⟨χ113, hE, hF⟩ := h112.freeze (by decide)
  replace hS := hS.ev hE (xone_box kr)
  replace hO := hO.mv hE rfl rfl
  have h114 := hF; clear hE hF
  exact fin T hS hO (fun c => c) rfl (r := [.slice a110 out_109.length c111]) kr (fun χ' hM hC => ⟨out_109, hm, a110, c111, rfl, h114.m0 hM⟩)
theorem C25 (v : ∀ (n_ : Int), preOr n_ → VC25 n_ (fun r => r = ref30_Orders n_)) : S25 := by
 intro w χ n_    hp 
 refine (W25 w χ n_    _ (v n_ hp)).mono ?_
 rintro _ _ _ _ ⟨r, rfl, h⟩
 exact h
/-- replevin/replevinref30.All -/
theorem W12 (k25 : S25) (k26 : S26) (k27 : S27) (w0 : World) (χ0 : Nat → Nat) (o_ : Api_Object) (l_ : List Api_Oper) (a1 : Option Addr) (c1 : Nat) (a2 : Option Addr) (c2 : Nat) (Q : (List (List Api_Pick)) → Prop) (hm : VC12 o_ l_ Q) (h1 : RS tApi_Row w0 χ0 a1 o_.Rows c1) (h2 : RS tApi_Oper w0 χ0 a2 l_ c2) :
  Ret Try.prog 12 #[.agg #[.int .i64 o_.States, .int .i64 o_.Kinds, .int .i64 o_.Init, .slice a1 o_.Rows.length c1], .slice a2 l_.length c2] xnone w0 χ0 (fun w χ' v => ∃ r, Q r ∧ ∃ (ra1 : Option Addr) (rc1 : Nat), v = .slice ra1 r.length rc1 ∧ RS (tSlice tApi_Pick) w χ' ra1 r rc1) := by
 unfold VC12 at hm
 replace hm := hm (h1.sm kr)
 replace hm := hm (h2.sm kr)
 refine enter Try.func12 rfl (vals := [.agg #[.int .i64 o_.States, .int .i64 o_.Kinds, .int .i64 o_.Init, .slice a1 o_.Rows.length c1], .slice a2 l_.length c2]) kr ?_
 intro ρ a hS hO hM
 replace h1 := h1.m0 hM
 replace h2 := h2.m0 hM
 clear hM
 refine rM T hS ⟨[(1, Sl a2 l_ c2), (2, Pt 3 0)], [(3, (24, [I o_.States, I o_.Kinds, I o_.Init, Sl a1 o_.Rows c1]))]⟩ fun ρ a w174 χ175 hS hE hr => ?_
 replace hO := hO.mv hE rfl rfl
 replace h1 := h1.mv hE rfl
 replace h2 := h2.mv hE rfl
 clear hE hr
 refine rP T hS ⟨[(1, Sl a2 l_ c2), (2, Pt 3 0), (5, V (.slice none 0 0))], [(3, (24, [I o_.States, I o_.Kinds, I o_.Init, Sl a1 o_.Rows c1]))]⟩ fun a hS => ?_
 refine regO ?_
 refine oP T hS 2 ⟨[(1, Sl a2 l_ c2), (2, Pt 3 0), (5, V (.slice none 0 0)), (11, I ((l_.length : Nat) : Int))], [(3, (24, [I o_.States, I o_.Kinds, I o_.Init, Sl a1 o_.Rows c1]))]⟩ fun a hS => ?_
 obtain ⟨hq, hm⟩ := hm
 refine op1 (call hS kr kr hb25 kr (fun _ _ => rfl) (k25 _ _ ((l_.length : Nat) : Int) hq) ?_)
 intro v101 a w102 χ103 hE hp hS
 clear hq
 replace hO := hO.mv hE rfl rfl
 replace h1 := h1.mv hE rfl
 replace h2 := h2.mv hE rfl
 clear hE
 obtain ⟨a105, c106, hp, h107⟩ := hp
 obtain ⟨r104, hr⟩ : ∃ r, ref30_Orders ((l_.length : Nat) : Int) = r := ⟨_, rfl⟩
 replace hm := hm r104 hr
 rw [hr] at hp h107
 clear hr
 subst hp
 replace hm := hm (h107.sm kr)
 refine eP T hS ⟨[(1, Sl a2 l_ c2), (2, Pt 3 0), (5, V (.slice none 0 0)), (6, Sl a105 r104 c106)], [(3, (24, [I o_.States, I o_.Kinds, I o_.Init, Sl a1 o_.Rows c1]))]⟩ fun a hS => ?_
 refine wcut (fun a w => ∃ (ρ : Nat → Nat) (χ : Nat → Nat) (out_108 : List (List Api_Pick)) (a109 : Option Addr) (c110 : Nat), VC12_J1 Q out_108 ∧ St Try.f12.ntmps ⟨[(5, Sl a109 out_108 c110)], []⟩ ρ a w χ ∧ Old w0 χ0 w χ ∧ OS (tSlice tApi_Pick) 28 w χ 1005 a109 out_108 c110) ?_ ?_
 ·refine rP T hS ⟨[(1, Sl a2 l_ c2), (2, Pt 3 0), (5, V (.slice none 0 0)), (6, Sl a105 r104 c106), (7, I 0)], [(3, (24, [I o_.States, I o_.Kinds, I o_.Init, Sl a1 o_.Rows c1]))]⟩ fun a hS => ?_
  refine wblock ?_
  obtain ⟨I1, μ1, hm0, hm⟩ := hm
  refine wloop (σ := (List (List Api_Pick)) × Int) (fun s a w => ∃ (ρ : Nat → Nat) (χ : Nat → Nat) (a116 : Option Addr) (c117 : Nat), I1 s.1 s.2 ∧ St Try.f12.ntmps ⟨[(1, Sl a2 l_ c2), (2, Pt 3 0), (5, Sl a116 s.1 c117), (6, Sl a105 r104 c106), (7, I s.2)], [(3, (24, [I o_.States, I o_.Kinds, I o_.Init, Sl a1 o_.Rows c1]))]⟩ ρ a w χ ∧ Old w0 χ0 w χ ∧ RS tApi_Oper w χ a2 l_ c2 ∧ OS (tSlice tApi_Pick) 28 w χ 1005 a116 s.1 c117 ∧ RS (tSlice tI) w χ a105 r104 c106 ∧ RS tApi_Row w χ a1 o_.Rows c1) (fun s => μ1 s.1 s.2) (⟨[], 0⟩) ?_ ?_
  ·exact ⟨ρ, _, none, 0, hm0, hS.sl _, hO, h2, (OS.nil _ _ _ _ _), h107, h1⟩
  ·rintro ⟨out_115, i_120⟩ a w171 ⟨ρ, χ170, a116, c117, hI, hS, hO, h114, h118, h119, h121⟩
   replace hm := hm out_115 i_120 hI
   clear hI hm0
   refine wseq ?_
   refine rP T hS ⟨[(1, Sl a2 l_ c2), (2, Pt 3 0), (5, Sl a116 out_115 c117), (6, Sl a105 r104 c106), (7, I i_120), (16, B (decide (i_120 < ((r104.length : Nat) : Int))))], [(3, (24, [I o_.States, I o_.Kinds, I o_.Init, Sl a1 o_.Rows c1]))]⟩ fun a hS => ?_
   refine wcond hS (b := decide (i_120 < ((r104.length : Nat) : Int))) kr (fun hb => ?_) (fun hb => ?_)
   ·replace hm := hm.1 hb
    refine wskip ?_
    refine wcut (fun a w => ∃ (ρ : Nat → Nat) (χ : Nat → Nat) (out_123 : List (List Api_Pick)) (a124 : Option Addr) (c125 : Nat), VC12_J2 I1 μ1 out_115 i_120 out_123 ∧ St Try.f12.ntmps ⟨[(1, Sl a2 l_ c2), (2, Pt 3 0), (5, Sl a124 out_123 c125), (6, Sl a105 r104 c106), (7, I i_120)], [(3, (24, [I o_.States, I o_.Kinds, I o_.Init, Sl a1 o_.Rows c1]))]⟩ ρ a w χ ∧ Old w0 χ0 w χ ∧ RS tApi_Oper w χ a2 l_ c2 ∧ OS (tSlice tApi_Pick) 28 w χ 1005 a124 out_123 c125 ∧ RS (tSlice tI) w χ a105 r104 c106 ∧ RS tApi_Row w χ a1 o_.Rows c1) ?_ ?_
    ·refine wblock ?_
     refine drawnSX [3] mixed hS ?_
     intro w129 χ130 hS hE hD hH
     replace hO := hO.mv hE rfl rfl
     replace h114 := h114.mv hE rfl
     replace h118 := h118.mv hE rfl rfl
     replace h119 := h119.mv hE rfl
     replace h121 := h121.mv hE rfl
     clear hE
     refine tk T [0, 1, 2, 3] [3] hS hH #[true, true, true, true, false, false, false, false, false, false, false, false] 8 ⟨[(1, Sl a2 l_ c2), (2, Pt 3 0), (5, Sl a116 out_115 c117), (6, Sl a105 r104 c106), (7, I i_120), (20, V (.agg #[.int .i64 o_.States, .int .i64 o_.Kinds, .int .i64 o_.Init, .slice a1 o_.Rows.length c1])), (21, Sl a2 l_ c2), (22, Sl a105 r104 c106), (23, I i_120)], [(3, (24, [I o_.States, I o_.Kinds, I o_.Init, Sl a1 o_.Rows c1]))]⟩ fun a hS => ?_
     obtain ⟨hq, hm⟩ := hm
     refine dindex (e := 64) (k := .i64) T 4 hS kr kr kr (by rfl) kr hH kr kr h119 kr kr hq.1 hq.2 ?_
     intro A131 a h132 hS
     clear hq
     have h132b := h132.here
     refine dload1 T 5 hS kr kr kr (by rfl) kr hH kr h132 h132b rfl kr ?_
     intro v133 a hv hS
     obtain ⟨a134, c135, hv, h136⟩ := hv
     cases hv
     replace hm := hm (h136.sm kr)
     obtain ⟨hq, hm⟩ := hm
     refine only 6 kr (by rfl) (call hS kr kr hb26 kr (fun _ _ => rfl) (k26 _ _ o_ l_ (gi r104 i_120) a1 c1 a2 c2 a134 c135 hq h121 h114 h136) ?_)
     intro v137 a w138 χ139 hE hp hS
     clear hq
     replace hO := hO.mv hE rfl rfl
     replace hD := hD.ev hE rfl
     replace h114 := h114.mv hE rfl
     replace h118 := h118.mv hE rfl rfl
     replace h119 := h119.mv hE rfl
     replace h121 := h121.mv hE rfl
     replace h132 := h132.mv hE rfl
     replace h136 := h136.mv hE rfl
     clear hE
     obtain ⟨a141, c142, hp, h143⟩ := hp
     obtain ⟨r140, hr⟩ : ∃ r, ref28_Fill o_ l_ (gi r104 i_120) = r := ⟨_, rfl⟩
     replace hm := hm r140 hr
     rw [hr] at hp h143
     clear hr
     subst hp
     replace hm := hm (h143.sm kr)
     replace hS := hS.sl ⟨[(1, Sl a2 l_ c2), (2, Pt 3 0), (5, Sl a116 out_115 c117), (6, Sl a105 r104 c106), (7, I i_120), (20, V (.agg #[.int .i64 o_.States, .int .i64 o_.Kinds, .int .i64 o_.Init, .slice a1 o_.Rows.length c1])), (21, Sl a2 l_ c2), (22, Sl a105 r104 c106), (23, I i_120), (24, V (.pointer (some A131))), (25, Sl a134 (gi r104 i_120) c135), (26, V (.tuple #[.slice a141 r140.1.length c142, .int .i64 r140.2]))], [(3, (24, [I o_.States, I o_.Kinds, I o_.Init, Sl a1 o_.Rows c1]))]⟩
     refine andH (Hold.of hS (bks := [3]) kr hD) ?_
     intro hH
     refine tk T [7, 8, 9, 10, 11] [3] hS hH #[true, true, true, true, true, true, true, true, true, true, true, true] 0 ⟨[(1, Sl a2 l_ c2), (2, Pt 3 0), (5, Sl a116 out_115 c117), (6, Sl a105 r104 c106), (7, I i_120), (8, Sl a141 r140.1 c142), (9, I r140.2)], [(3, (24, [I o_.States, I o_.Kinds, I o_.Init, Sl a1 o_.Rows c1]))]⟩ fun a hS => ?_
     refine drawnDone kr ?_
     clear hD hH
     replace hS := hS.sl ⟨[(1, Sl a2 l_ c2), (2, Pt 3 0), (5, Sl a116 out_115 c117), (6, Sl a105 r104 c106), (7, I i_120), (8, Sl a141 r140.1 c142), (9, I r140.2)], [(3, (24, [I o_.States, I o_.Kinds, I o_.Init, Sl a1 o_.Rows c1]))]⟩
     refine wcut (fun a w => ∃ (ρ : Nat → Nat) (χ : Nat → Nat) (out_145 : List (List Api_Pick)) (x_151 : Bool) (a146 : Option Addr) (c147 : Nat), VC12_J3 I1 μ1 out_115 i_120 r140 out_145 x_151 ∧ St Try.f12.ntmps ⟨[(1, Sl a2 l_ c2), (2, Pt 3 0), (5, Sl a146 out_145 c147), (6, Sl a105 r104 c106), (7, I i_120), (8, Sl a141 r140.1 c142), (36, B x_151)], [(3, (24, [I o_.States, I o_.Kinds, I o_.Init, Sl a1 o_.Rows c1]))]⟩ ρ a w χ ∧ Old w0 χ0 w χ ∧ RS tApi_Oper w χ a2 l_ c2 ∧ OS (tSlice tApi_Pick) 28 w χ 1005 a146 out_145 c147 ∧ RS (tSlice tI) w χ a105 r104 c106 ∧ RS tApi_Pick w χ a141 r140.1 c142 ∧ RS tApi_Row w χ a1 o_.Rows c1) ?_ ?_
     ·refine region ?_
      refine oP T hS 3 ⟨[(1, Sl a2 l_ c2), (2, Pt 3 0), (5, Sl a116 out_115 c117), (6, Sl a105 r104 c106), (7, I i_120), (8, Sl a141 r140.1 c142), (31, B (r140.2 == 0))], [(3, (24, [I o_.States, I o_.Kinds, I o_.Init, Sl a1 o_.Rows c1]))]⟩ fun a hS => ?_
      rcases Bool.eq_false_or_eq_true (r140.2 == 0) with hb | hb
      ·replace hS := hS.lit (t := 31) kr hb
       replace hm := hm.1 hb
       refine oP T hS 3 ⟨[(1, Sl a2 l_ c2), (2, Pt 3 0), (5, Sl a116 out_115 c117), (6, Sl a105 r104 c106), (7, I i_120), (8, Sl a141 r140.1 c142), (31, B true), (32, V (.agg #[.int .i64 o_.States, .int .i64 o_.Kinds, .int .i64 o_.Init, .slice a1 o_.Rows.length c1])), (33, Sl a2 l_ c2), (34, Sl a141 r140.1 c142)], [(3, (24, [I o_.States, I o_.Kinds, I o_.Init, Sl a1 o_.Rows c1]))]⟩ fun a hS => ?_
       refine op1 (call hS kr kr hb27 kr (fun _ _ => rfl) (k27 _ _ o_ l_ r140.1 a1 c1 a2 c2 a141 c142 h121 h114 h143) ?_)
       intro v162 a w163 χ164 hE hp hS
       replace hO := hO.mv hE rfl rfl
       replace h114 := h114.mv hE rfl
       replace h118 := h118.mv hE rfl rfl
       replace h119 := h119.mv hE rfl
       replace h121 := h121.mv hE rfl
       replace h143 := h143.mv hE rfl
       clear hE
       obtain ⟨r165, hr⟩ : ∃ r, ref29_Lin o_ l_ r140.1 = r := ⟨_, rfl⟩
       replace hm := hm r165 hr
       rw [hr] at hp
       clear hr
       subst hp
       refine eP T hS ⟨[(1, Sl a2 l_ c2), (2, Pt 3 0), (5, Sl a116 out_115 c117), (6, Sl a105 r104 c106), (7, I i_120), (8, Sl a141 r140.1 c142), (32, V (.agg #[.int .i64 o_.States, .int .i64 o_.Kinds, .int .i64 o_.Init, .slice a1 o_.Rows.length c1])), (33, Sl a2 l_ c2), (34, Sl a141 r140.1 c142), (35, B r165), (36, B r165)], [(3, (24, [I o_.States, I o_.Kinds, I o_.Init, Sl a1 o_.Rows c1]))]⟩ fun a hS => ?_
       exact ⟨ρ, _, out_115, r165, a116, c117, hm, hS.sl _, hO, h114, h118, h119, h143, h121⟩
      ·replace hS := hS.lit (t := 31) kr hb
       replace hm := hm.2 hb
       refine eP T hS ⟨[(1, Sl a2 l_ c2), (2, Pt 3 0), (5, Sl a116 out_115 c117), (6, Sl a105 r104 c106), (7, I i_120), (8, Sl a141 r140.1 c142), (36, B false)], [(3, (24, [I o_.States, I o_.Kinds, I o_.Init, Sl a1 o_.Rows c1]))]⟩ fun a hS => ?_
       exact ⟨ρ, _, out_115, false, a116, c117, hm, hS.sl _, hO, h114, h118, h119, h143, h121⟩
     ·rintro a w167 ⟨ρ, χ166, out_145, x_151, a146, c147, hm, hS, hO, h144, h148, h149, h150, h152⟩
      unfold VC12_J3 at hm
      refine wcond hS (b := x_151) kr (fun hb => ?_) (fun hb => ?_)
      ·replace hm := hm.1 hb
       refine region ?_
       refine oP T hS 2 ⟨[(1, Sl a2 l_ c2), (2, Pt 3 0), (5, Sl a146 out_145 c147), (6, Sl a105 r104 c106), (7, I i_120), (37, Sl a146 out_145 c147), (38, Sl a141 r140.1 c142)], [(3, (24, [I o_.States, I o_.Kinds, I o_.Init, Sl a1 o_.Rows c1]))]⟩ fun a hS => ?_
       refine op1 (lit (E := 28) (col := 0) (T := (tSlice tApi_Pick)) (vals := [.slice a141 r140.1.length c142]) (ys := [r140.1]) T hS kr kr kr kr (by exact ⟨⟨a141, c142, rfl, h150⟩, trivial⟩) rfl kr kr kr kr ?_)
       intro b153 a w154 χ155 hE h156 hN hS
       clear hN
       replace hO := hO.mv hE rfl rfl
       replace h144 := h144.mv hE rfl
       replace h148 := h148.mv hE rfl rfl
       replace h149 := h149.mv hE rfl
       replace h150 := h150.mv hE rfl
       replace h152 := h152.mv hE rfl
       clear hE
       replace h156 := h156.rs0
       obtain ⟨hq, hm⟩ := hm
       obtain ⟨news, hN⟩ := h156.src
       refine op1 (append (E := 28) (T := (tSlice tApi_Pick)) (col := 1005) (xs := out_145) T hS kr kr kr kr h148 hN kr kr kr kr hq ?_)
       intro a160 c161 a w157 χ158 hE h159 hS
       clear hq hN
       clear h148
       replace hO := hO.mv hE rfl rfl
       replace h144 := h144.mv hE rfl
       replace h149 := h149.mv hE rfl
       replace h150 := h150.mv hE rfl
       replace h152 := h152.mv hE rfl
       replace h156 := h156.mv hE rfl
       clear hE
       refine eP T hS ⟨[(1, Sl a2 l_ c2), (2, Pt 3 0), (5, Sl a160 (out_145 ++ [r140.1]) c161), (6, Sl a105 r104 c106), (7, I i_120)], [(3, (24, [I o_.States, I o_.Kinds, I o_.Init, Sl a1 o_.Rows c1]))]⟩ fun a hS => ?_
       exact ⟨ρ, _, out_145 ++ [r140.1], a160, c161, hm, hS.sl _, hO, h144, h159, h149, h152⟩
      ·replace hm := hm.2 hb
       refine wskip ?_
       exact ⟨ρ, _, out_145, a146, c147, hm, hS.sl _, hO, h144, h148, h149, h152⟩
    ·rintro a w169 ⟨ρ, χ168, out_123, a124, c125, hm, hS, hO, h122, h126, h127, h128⟩
     unfold VC12_J2 at hm
     refine region (eP T hS ⟨[(1, Sl a2 l_ c2), (2, Pt 3 0), (5, Sl a124 out_123 c125), (6, Sl a105 r104 c106), (7, I (IntKind.i64.wrap (i_120 + 1)))], [(3, (24, [I o_.States, I o_.Kinds, I o_.Init, Sl a1 o_.Rows c1]))]⟩ fun a hS => ?_)
     exact ⟨⟨out_123, IntKind.i64.wrap (i_120 + 1)⟩, ⟨ρ, _, a124, c125, hm.1, hS.sl _, hO, h122, h126, h127, h128⟩, hm.2⟩
   ·replace hm := hm.2 hb
    refine wexit (by rfl) ?_
    exact ⟨ρ, _, out_115, a116, c117, hm, hS.sl _, hO, h118⟩
 ·rintro a w173 ⟨ρ, χ172, out_108, a109, c110, hm, hS, hO, h111⟩
  unfold VC12_J1 at hm
  refine rP T hS ⟨[(4, Sl a109 out_108 c110)], []⟩ fun a hS => ?_
  refine wret ?_
  obtain ⟨χ112, hE, hF⟩ := h111.freeze (by decide)
  replace hS := hS.ev hE (xone_box kr)
  replace hO := hO.mv hE rfl rfl
  have h113 := hF; clear hE hF
  exact fin T hS hO (fun c => c) rfl (r := [.slice a109 out_108.length c110]) kr (fun χ' hM hC => ⟨out_108, hm, a109, c110, rfl, h113.m0 hM⟩)
theorem C12 (k25 : S25) (k26 : S26) (k27 : S27) (v : ∀ (o_ : Api_Object) (l_ : List Api_Oper), preAA o_ l_ → VC12 o_ l_ (fun r => r = ref30_All o_ l_)) : S12 := by
 intro w χ o_ l_ a1 c1 a2 c2   hp h1 h2
 refine (W12 k25 k26 k27 w χ o_ l_ a1 c1 a2 c2   _ (v o_ l_ hp) h1 h2).mono ?_
 rintro _ _ _ _ ⟨r, rfl, h⟩
 exact h
/-- replevin/replevinref30.less -/
theorem W28 (w0 : World) (χ0 : Nat → Nat) (a_ : List Api_Pick) (b_ : List Api_Pick) (a1 : Option Addr) (c1 : Nat) (a2 : Option Addr) (c2 : Nat) (Q : Bool → Prop) (hm : VC28 a_ b_ Q) (h1 : RS tApi_Pick w0 χ0 a1 a_ c1) (h2 : RS tApi_Pick w0 χ0 a2 b_ c2) :
  Ret Try.prog 28 #[.slice a1 a_.length c1, .slice a2 b_.length c2] xnone w0 χ0 (fun w χ' v => ∃ r, Q r ∧ v = .bool r) := by
 unfold VC28 at hm
 replace hm := hm (h1.sm kr)
 replace hm := hm (h2.sm kr)
 refine enter Try.func28 rfl (vals := [.slice a1 a_.length c1, .slice a2 b_.length c2]) kr ?_
 intro ρ a hS hO hM
 replace h1 := h1.m0 hM
 replace h2 := h2.m0 hM
 clear hM
 refine rP T hS ⟨[(0, Sl a1 a_ c1), (1, Sl a2 b_ c2)], []⟩ fun a hS => ?_
 refine wcut (fun a w => ∃ (ρ : Nat → Nat) (χ : Nat → Nat), VC28_J1 a_ b_ Q ∧ St Try.f28.ntmps ⟨[(0, Sl a1 a_ c1), (1, Sl a2 b_ c2)], []⟩ ρ a w χ ∧ Old w0 χ0 w χ ∧ RS tApi_Pick w χ a1 a_ c1 ∧ RS tApi_Pick w χ a2 b_ c2) ?_ ?_
 ·refine rP T hS ⟨[(0, Sl a1 a_ c1), (1, Sl a2 b_ c2), (5, I 0)], []⟩ fun a hS => ?_
  refine wblock ?_
  obtain ⟨I1, μ1, hm0, hm⟩ := hm
  refine wloop (σ := Int) (fun s a w => ∃ (ρ : Nat → Nat) (χ : Nat → Nat), I1 s ∧ St Try.f28.ntmps ⟨[(0, Sl a1 a_ c1), (1, Sl a2 b_ c2), (5, I s)], []⟩ ρ a w χ ∧ Old w0 χ0 w χ ∧ RS tApi_Pick w χ a1 a_ c1 ∧ RS tApi_Pick w χ a2 b_ c2) (fun s => μ1 s) (0) ?_ ?_
  ·exact ⟨ρ, _, hm0, hS.sl _, hO, h1, h2⟩
  ·rintro i_105 a w131 ⟨ρ, χ130, hI, hS, hO, h103, h104⟩
   replace hm := hm i_105 hI
   clear hI hm0
   refine wseq ?_
   refine rP T hS ⟨[(0, Sl a1 a_ c1), (1, Sl a2 b_ c2), (5, I i_105), (15, B ((decide (i_105 < ((a_.length : Nat) : Int))) && (decide (i_105 < ((b_.length : Nat) : Int)))))], []⟩ (sp := [10]) fun a hS => ?_
   refine wcond hS (b := ((decide (i_105 < ((a_.length : Nat) : Int))) && (decide (i_105 < ((b_.length : Nat) : Int))))) kr (fun hb => ?_) (fun hb => ?_)
   ·replace hm := hm.1 hb
    refine wskip ?_
    refine wseq ?_
    refine wblock ?_
    refine drawnSX [] mixed hS ?_
    intro w106 χ107 hS hE hD hH
    replace hO := hO.mv hE rfl rfl
    replace h103 := h103.mv hE rfl
    replace h104 := h104.mv hE rfl
    clear hE
    refine tk T [0, 1, 5, 6] [] hS hH #[true, true, false, false, false, true, true, false, false, false, false] 7 ⟨[(0, Sl a1 a_ c1), (1, Sl a2 b_ c2), (5, I i_105), (18, Sl a1 a_ c1), (19, I i_105), (23, Sl a2 b_ c2), (24, I i_105)], []⟩ fun a hS => ?_
    obtain ⟨hq, hm⟩ := hm
    refine dindex (e := 51) (k := .i64) T 2 hS kr kr kr (by rfl) kr hH kr kr h103 kr kr hq.1 hq.2 ?_
    intro A108 a h109 hS
    clear hq
    have h109b := h109.here
    refine dfieldA (off := 0) (fsz := 1) (ft := 3) (TF := tI) (y := (gi a_ i_105).Oper) 3 T hS kr kr kr (by rfl) kr hH kr h109 kr kr kr (fun cs h => Api_Pick_f0 h) ?_
    intro A110 a h111 hbl hS
    have h111b := h109b
    rw [← hbl] at h111b
    clear hbl
    refine dload1 T 4 hS kr kr kr (by rfl) kr hH kr h111 h111b rfl kr ?_
    intro v112 a hv hS
    cases hv
    obtain ⟨hq, hm⟩ := hm
    refine dindex (e := 51) (k := .i64) T 7 hS kr kr kr (by rfl) kr hH kr kr h104 kr kr hq.1 hq.2 ?_
    intro A113 a h114 hS
    clear hq
    have h114b := h114.here
    refine dfieldA (off := 0) (fsz := 1) (ft := 3) (TF := tI) (y := (gi b_ i_105).Oper) 8 T hS kr kr kr (by rfl) kr hH kr h114 kr kr kr (fun cs h => Api_Pick_f0 h) ?_
    intro A115 a h116 hbl hS
    have h116b := h114b
    rw [← hbl] at h116b
    clear hbl
    refine dload1 T 9 hS kr kr kr (by rfl) kr hH kr h116 h116b rfl kr ?_
    intro v117 a hv hS
    cases hv
    refine tk T [10] [] hS hH #[true, true, true, true, true, true, true, true, true, true, true] 0 ⟨[(0, Sl a1 a_ c1), (1, Sl a2 b_ c2), (5, I i_105), (28, B (((gi a_ i_105).Oper) != ((gi b_ i_105).Oper)))], []⟩ fun a hS => ?_
    refine drawnDone kr ?_
    clear hD hH
    replace hS := hS.sl ⟨[(0, Sl a1 a_ c1), (1, Sl a2 b_ c2), (5, I i_105), (28, B (((gi a_ i_105).Oper) != ((gi b_ i_105).Oper)))], []⟩
    refine wcond hS (b := (((gi a_ i_105).Oper) != ((gi b_ i_105).Oper))) kr (fun hb => ?_) (fun hb => ?_)
    ·replace hm := hm.1 hb
     refine drawnSX [] mixed hS ?_
     intro w118 χ119 hS hE hD hH
     replace hO := hO.mv hE rfl rfl
     replace h103 := h103.mv hE rfl
     replace h104 := h104.mv hE rfl
     clear hE
     refine tk T [0, 1, 5, 6] [] hS hH #[true, true, false, false, false, true, true, false, false, false, false, false] 8 ⟨[(29, Sl a1 a_ c1), (30, I i_105), (34, Sl a2 b_ c2), (35, I i_105)], []⟩ fun a hS => ?_
     obtain ⟨hq, hm⟩ := hm
     refine dindex (e := 51) (k := .i64) T 2 hS kr kr kr (by rfl) kr hH kr kr h103 kr kr hq.1 hq.2 ?_
     intro A120 a h121 hS
     clear hq
     have h121b := h121.here
     refine dfieldA (off := 0) (fsz := 1) (ft := 3) (TF := tI) (y := (gi a_ i_105).Oper) 3 T hS kr kr kr (by rfl) kr hH kr h121 kr kr kr (fun cs h => Api_Pick_f0 h) ?_
     intro A122 a h123 hbl hS
     have h123b := h121b
     rw [← hbl] at h123b
     clear hbl
     refine dload1 T 4 hS kr kr kr (by rfl) kr hH kr h123 h123b rfl kr ?_
     intro v124 a hv hS
     cases hv
     obtain ⟨hq, hm⟩ := hm
     refine dindex (e := 51) (k := .i64) T 7 hS kr kr kr (by rfl) kr hH kr kr h104 kr kr hq.1 hq.2 ?_
     intro A125 a h126 hS
     clear hq
     have h126b := h126.here
     refine dfieldA (off := 0) (fsz := 1) (ft := 3) (TF := tI) (y := (gi b_ i_105).Oper) 8 T hS kr kr kr (by rfl) kr hH kr h126 kr kr kr (fun cs h => Api_Pick_f0 h) ?_
     intro A127 a h128 hbl hS
     have h128b := h126b
     rw [← hbl] at h128b
     clear hbl
     refine dload1 T 9 hS kr kr kr (by rfl) kr hH kr h128 h128b rfl kr ?_
     intro v129 a hv hS
     cases hv
     refine tk T [10, 11] [] hS hH #[true, true, true, true, true, true, true, true, true, true, true, true] 0 ⟨[(4, B (decide (((gi a_ i_105).Oper) < ((gi b_ i_105).Oper))))], []⟩ fun a hS => ?_
     refine drawnDone kr ?_
     clear hD hH
     replace hS := hS.sl ⟨[(4, B (decide (((gi a_ i_105).Oper) < ((gi b_ i_105).Oper))))], []⟩
     refine wret ?_
     exact fin T hS hO (fun c => c) rfl (r := [.bool (decide (((gi a_ i_105).Oper) < ((gi b_ i_105).Oper)))]) kr (fun χ' hM hC => ⟨(decide (((gi a_ i_105).Oper) < ((gi b_ i_105).Oper))), hm, rfl⟩)
    ·replace hm := hm.2 hb
     refine wskip ?_
     refine region (eP T hS ⟨[(0, Sl a1 a_ c1), (1, Sl a2 b_ c2), (5, I (IntKind.i64.wrap (i_105 + 1)))], []⟩ fun a hS => ?_)
     exact ⟨IntKind.i64.wrap (i_105 + 1), ⟨ρ, _, hm.1, hS.sl _, hO, h103, h104⟩, hm.2⟩
   ·replace hm := hm.2 hb
    refine wexit (by rfl) ?_
    exact ⟨ρ, _, hm, hS.sl _, hO, h103, h104⟩
 ·rintro a w133 ⟨ρ, χ132, hm, hS, hO, h101, h102⟩
  unfold VC28_J1 at hm
  refine rP T hS ⟨[(4, B (decide (((a_.length : Nat) : Int) < ((b_.length : Nat) : Int))))], []⟩ fun a hS => ?_
  refine wret ?_
  exact fin T hS hO (fun c => c) rfl (r := [.bool (decide (((a_.length : Nat) : Int) < ((b_.length : Nat) : Int)))]) kr (fun χ' hM hC => ⟨(decide (((a_.length : Nat) : Int) < ((b_.length : Nat) : Int))), hm, rfl⟩)
theorem C28 (v : ∀ (a_ : List Api_Pick) (b_ : List Api_Pick), VC28 a_ b_ (fun r => r = ref30_less a_ b_)) : S28 := by
 intro w χ a_ b_ a1 c1 a2 c2   h1 h2
 refine (W28 w χ a_ b_ a1 c1 a2 c2   _ (v a_ b_) h1 h2).mono ?_
 rintro _ _ _ _ ⟨r, rfl, h⟩
 exact h
/-- replevin/replevinref30.First -/
theorem W13 (k28 : S28) (w0 : World) (χ0 : Nat → Nat) (l_ : List (List Api_Pick)) (a1 : Option Addr) (c1 : Nat) (Q : (List Api_Pick) × Bool → Prop) (hm : VC13 l_ Q) (h1 : RS (tSlice tApi_Pick) w0 χ0 a1 l_ c1) :
  Ret Try.prog 13 #[.slice a1 l_.length c1] xnone w0 χ0 (fun w χ' v => ∃ r, Q r ∧ ∃ (ra1 : Option Addr) (rc1 : Nat), v = .tuple #[.slice ra1 r.1.length rc1, .bool r.2] ∧ RS tApi_Pick w χ' ra1 r.1 rc1) := by
 unfold VC13 at hm
 replace hm := hm (h1.sm kr)
 refine enter Try.func13 rfl (vals := [.slice a1 l_.length c1]) kr ?_
 intro ρ a hS hO hM
 replace h1 := h1.m0 hM
 clear hM
 refine rP T hS ⟨[(0, Sl a1 l_ c1)], []⟩ fun a hS => ?_
 refine wseq ?_
 refine rP T hS ⟨[(0, Sl a1 l_ c1), (8, B (((l_.length : Nat) : Int) == 0))], []⟩ fun a hS => ?_
 refine wcond hS (b := (((l_.length : Nat) : Int) == 0)) kr (fun hb => ?_) (fun hb => ?_)
 ·replace hm := hm.1 hb
  refine rP T hS ⟨[(2, V (.slice none 0 0)), (3, B false)], []⟩ fun a hS => ?_
  refine wret ?_
  exact fin T hS hO (fun c => c) rfl (r := [.slice none 0 0, .bool false]) kr (fun χ' hM hC => ⟨([], false), hm, none, 0, rfl, RS.empty _ _ _⟩)
 ·replace hm := hm.2 hb
  refine wskip ?_
  refine regO ?_
  refine oP T hS 1 ⟨[(0, Sl a1 l_ c1), (9, Sl a1 l_ c1)], []⟩ fun a hS => ?_
  obtain ⟨hq, hm⟩ := hm
  refine op1 (index (e := 28) (k := .i64) T hS kr kr kr kr h1 kr kr hq.1 hq.2 ?_)
  intro A101 a h102 hS
  clear hq
  refine op1 (load1 T hS kr kr kr h102 rfl kr ?_)
  intro v103 a hv hS
  obtain ⟨a104, c105, hv, h106⟩ := hv
  cases hv
  replace hm := hm (h106.sm kr)
  refine eP T hS ⟨[(0, Sl a1 l_ c1), (4, Sl a104 (gi l_ 0) c105)], []⟩ fun a hS => ?_
  refine wcut (fun a w => ∃ (ρ : Nat → Nat) (χ : Nat → Nat) (best_107 : List Api_Pick) (a108 : Option Addr) (c109 : Nat), VC13_J1 Q best_107 ∧ St Try.f13.ntmps ⟨[(4, Sl a108 best_107 c109)], []⟩ ρ a w χ ∧ Old w0 χ0 w χ ∧ RS tApi_Pick w χ a108 best_107 c109) ?_ ?_
  ·refine rP T hS ⟨[(0, Sl a1 l_ c1), (4, Sl a104 (gi l_ 0) c105), (5, I 1)], []⟩ fun a hS => ?_
   refine wblock ?_
   obtain ⟨I1, μ1, hm0, hm⟩ := hm
   refine wloop (σ := (List Api_Pick) × Int) (fun s a w => ∃ (ρ : Nat → Nat) (χ : Nat → Nat) (a113 : Option Addr) (c114 : Nat), I1 s.1 s.2 ∧ St Try.f13.ntmps ⟨[(0, Sl a1 l_ c1), (4, Sl a113 s.1 c114), (5, I s.2)], []⟩ ρ a w χ ∧ Old w0 χ0 w χ ∧ RS (tSlice tApi_Pick) w χ a1 l_ c1 ∧ RS tApi_Pick w χ a113 s.1 c114) (fun s => μ1 s.1 s.2) (⟨gi l_ 0, 1⟩) ?_ ?_
   ·exact ⟨ρ, _, a104, c105, hm0, hS.sl _, hO, h1, h106⟩
   ·rintro ⟨best_112, i_116⟩ a w141 ⟨ρ, χ140, a113, c114, hI, hS, hO, h111, h115⟩
    replace hm := hm best_112 i_116 hI
    clear hI hm0
    refine wseq ?_
    refine rP T hS ⟨[(0, Sl a1 l_ c1), (4, Sl a113 best_112 c114), (5, I i_116), (15, B (decide (i_116 < ((l_.length : Nat) : Int))))], []⟩ fun a hS => ?_
    refine wcond hS (b := decide (i_116 < ((l_.length : Nat) : Int))) kr (fun hb => ?_) (fun hb => ?_)
    ·replace hm := hm.1 hb
     refine wskip ?_
     refine wcut (fun a w => ∃ (ρ : Nat → Nat) (χ : Nat → Nat) (best_118 : List Api_Pick) (a119 : Option Addr) (c120 : Nat), VC13_J2 I1 μ1 best_112 i_116 best_118 ∧ St Try.f13.ntmps ⟨[(0, Sl a1 l_ c1), (4, Sl a119 best_118 c120), (5, I i_116)], []⟩ ρ a w χ ∧ Old w0 χ0 w χ ∧ RS (tSlice tApi_Pick) w χ a1 l_ c1 ∧ RS tApi_Pick w χ a119 best_118 c120) ?_ ?_
     ·refine wblock ?_
      refine regO ?_
      refine oP T hS 2 ⟨[(0, Sl a1 l_ c1), (4, Sl a113 best_112 c114), (5, I i_116), (18, Sl a1 l_ c1), (19, I i_116)], []⟩ fun a hS => ?_
      obtain ⟨hq, hm⟩ := hm
      refine op1 (index (e := 28) (k := .i64) T hS kr kr kr kr h111 kr kr hq.1 hq.2 ?_)
      intro A122 a h123 hS
      clear hq
      refine op1 (load1 T hS kr kr kr h123 rfl kr ?_)
      intro v124 a hv hS
      obtain ⟨a125, c126, hv, h127⟩ := hv
      cases hv
      replace hm := hm (h127.sm kr)
      refine oP T hS 1 ⟨[(0, Sl a1 l_ c1), (4, Sl a113 best_112 c114), (5, I i_116), (21, Sl a125 (gi l_ i_116) c126), (22, Sl a113 best_112 c114)], []⟩ fun a hS => ?_
      refine op1 (call hS kr kr hb28 kr (fun _ _ => rfl) (k28 _ _ (gi l_ i_116) best_112 a125 c126 a113 c114 h127 h115) ?_)
      intro v128 a w129 χ130 hE hp hS
      replace hO := hO.mv hE rfl rfl
      replace h111 := h111.mv hE rfl
      replace h115 := h115.mv hE rfl
      replace h127 := h127.mv hE rfl
      clear hE
      obtain ⟨r131, hr⟩ : ∃ r, ref30_less (gi l_ i_116) best_112 = r := ⟨_, rfl⟩
      replace hm := hm r131 hr
      rw [hr] at hp
      clear hr
      subst hp
      refine doneK ?_
      refine wcond hS (b := r131) kr (fun hb => ?_) (fun hb => ?_)
      ·replace hm := hm.1 hb
       refine region ?_
       refine oP T hS 2 ⟨[(0, Sl a1 l_ c1), (4, Sl a113 best_112 c114), (5, I i_116), (24, Sl a1 l_ c1), (25, I i_116)], []⟩ fun a hS => ?_
       obtain ⟨hq, hm⟩ := hm
       refine op1 (index (e := 28) (k := .i64) T hS kr kr kr kr h111 kr kr hq.1 hq.2 ?_)
       intro A132 a h133 hS
       clear hq
       refine op1 (load1 T hS kr kr kr h133 rfl kr ?_)
       intro v134 a hv hS
       obtain ⟨a135, c136, hv, h137⟩ := hv
       cases hv
       replace hm := hm (h137.sm kr)
       refine eP T hS ⟨[(0, Sl a1 l_ c1), (4, Sl a135 (gi l_ i_116) c136), (5, I i_116)], []⟩ fun a hS => ?_
       exact ⟨ρ, _, gi l_ i_116, a135, c136, hm, hS.sl _, hO, h111, h137⟩
      ·replace hm := hm.2 hb
       refine wskip ?_
       exact ⟨ρ, _, best_112, a113, c114, hm, hS.sl _, hO, h111, h115⟩
     ·rintro a w139 ⟨ρ, χ138, best_118, a119, c120, hm, hS, hO, h117, h121⟩
      unfold VC13_J2 at hm
      refine region (eP T hS ⟨[(0, Sl a1 l_ c1), (4, Sl a119 best_118 c120), (5, I (IntKind.i64.wrap (i_116 + 1)))], []⟩ fun a hS => ?_)
      exact ⟨⟨best_118, IntKind.i64.wrap (i_116 + 1)⟩, ⟨ρ, _, a119, c120, hm.1, hS.sl _, hO, h117, h121⟩, hm.2⟩
    ·replace hm := hm.2 hb
     refine wexit (by rfl) ?_
     exact ⟨ρ, _, best_112, a113, c114, hm, hS.sl _, hO, h115⟩
  ·rintro a w143 ⟨ρ, χ142, best_107, a108, c109, hm, hS, hO, h110⟩
   unfold VC13_J1 at hm
   refine rP T hS ⟨[(2, Sl a108 best_107 c109), (3, B true)], []⟩ fun a hS => ?_
   refine wret ?_
   exact fin T hS hO (fun c => c) rfl (r := [.slice a108 best_107.length c109, .bool true]) kr (fun χ' hM hC => ⟨(best_107, true), hm, a108, c109, rfl, h110.m0 hM⟩)
theorem C13 (k28 : S28) (v : ∀ (l_ : List (List Api_Pick)), VC13 l_ (fun r => r = ref30_First l_)) : S13 := by
 intro w χ l_ a1 c1   h1
 refine (W13 k28 w χ l_ a1 c1   _ (v l_) h1).mono ?_
 rintro _ _ _ _ ⟨r, rfl, h⟩
 exact h
/-- replevin/replevinlaw30.SearchTells -/
theorem W3 (k10 : S10) (k11 : S11) (k12 : S12) (k13 : S13) (k14 : S14) (k6 : S6) (k7 : S7) (k8 : S8) (k9 : S9) (w0 : World) (χ0 : Nat → Nat) (o_ : Api_Object) (l_ : List Api_Oper) (a1 : Option Addr) (c1 : Nat) (a2 : Option Addr) (c2 : Nat) (Q : Bool → Prop) (hm : VC3 o_ l_ Q) (h1 : RS tApi_Row w0 χ0 a1 o_.Rows c1) (h2 : RS tApi_Oper w0 χ0 a2 l_ c2) :
  Ret Try.prog 3 #[.agg #[.int .i64 o_.States, .int .i64 o_.Kinds, .int .i64 o_.Init, .slice a1 o_.Rows.length c1], .slice a2 l_.length c2] xnone w0 χ0 (fun w χ' v => ∃ r, Q r ∧ v = .bool r) := by
 unfold VC3 at hm
 replace hm := hm (h1.sm kr)
 replace hm := hm (h2.sm kr)
 refine enter Try.func3 rfl (vals := [.agg #[.int .i64 o_.States, .int .i64 o_.Kinds, .int .i64 o_.Init, .slice a1 o_.Rows.length c1], .slice a2 l_.length c2]) kr ?_
 intro ρ a hS hO hM
 replace h1 := h1.m0 hM
 replace h2 := h2.m0 hM
 clear hM
 refine rM T hS ⟨[(1, Sl a2 l_ c2), (2, Pt 3 0)], [(3, (24, [I o_.States, I o_.Kinds, I o_.Init, Sl a1 o_.Rows c1]))]⟩ fun ρ a w166 χ167 hS hE hr => ?_
 replace hO := hO.mv hE rfl rfl
 replace h1 := h1.mv hE rfl
 replace h2 := h2.mv hE rfl
 clear hE hr
 refine wseq ?_
 refine regO ?_
 refine oP T hS 1 ⟨[(1, Sl a2 l_ c2), (2, Pt 3 0), (16, V (.agg #[.int .i64 o_.States, .int .i64 o_.Kinds, .int .i64 o_.Init, .slice a1 o_.Rows.length c1]))], [(3, (24, [I o_.States, I o_.Kinds, I o_.Init, Sl a1 o_.Rows c1]))]⟩ fun a hS => ?_
 refine op1 (call hS kr kr hb6 kr (fun _ _ => rfl) (k6 _ _ o_ a1 c1 h1) ?_)
 intro v101 a w102 χ103 hE hp hS
 replace hO := hO.mv hE rfl rfl
 replace h1 := h1.mv hE rfl
 replace h2 := h2.mv hE rfl
 clear hE
 obtain ⟨r104, hr⟩ : ∃ r, law23_Few o_ = r := ⟨_, rfl⟩
 replace hm := hm r104 hr
 rw [hr] at hp
 clear hr
 subst hp
 refine eP T hS ⟨[(1, Sl a2 l_ c2), (2, Pt 3 0), (23, B ((!r104) || (decide (((l_.length : Nat) : Int) > 30))))], [(3, (24, [I o_.States, I o_.Kinds, I o_.Init, Sl a1 o_.Rows c1]))]⟩ (sp := [19]) fun a hS => ?_
 refine wcond hS (b := ((!r104) || (decide (((l_.length : Nat) : Int) > 30)))) kr (fun hb => ?_) (fun hb => ?_)
 ·replace hm := hm.1 hb
  refine regO ?_
  refine op1 (call hS kr kr hb7 kr (fun _ _ => rfl) (k7 _ _) ?_)
  intro v105 a w106 χ107 hE hp hS
  replace hO := hO.mv hE rfl rfl
  replace h1 := h1.mv hE rfl
  replace h2 := h2.mv hE rfl
  clear hE
  obtain ⟨r108, hr⟩ : ∃ r, law30_awake = r := ⟨_, rfl⟩
  replace hm := hm r108 hr
  rw [hr] at hp
  clear hr
  subst hp
  refine eP T hS ⟨[(4, B r108)], []⟩ fun a hS => ?_
  refine wret ?_
  exact fin T hS hO (fun c => c) rfl (r := [.bool r108]) kr (fun χ' hM hC => ⟨r108, hm, rfl⟩)
 ·replace hm := hm.2 hb
  refine wskip ?_
  refine regO ?_
  refine oP T hS 2 ⟨[(1, Sl a2 l_ c2), (2, Pt 3 0), (26, V (.agg #[.int .i64 o_.States, .int .i64 o_.Kinds, .int .i64 o_.Init, .slice a1 o_.Rows.length c1])), (27, Sl a2 l_ c2)], [(3, (24, [I o_.States, I o_.Kinds, I o_.Init, Sl a1 o_.Rows c1]))]⟩ fun a hS => ?_
  obtain ⟨hq, hm⟩ := hm
  refine op1 (call hS kr kr hb8 kr (fun _ _ => rfl) (k8 _ _ o_ l_ a1 c1 a2 c2 hq h1 h2) ?_)
  intro v109 a w110 χ111 hE hp hS
  clear hq
  replace hO := hO.mv hE rfl rfl
  replace h1 := h1.mv hE rfl
  replace h2 := h2.mv hE rfl
  clear hE
  obtain ⟨a113, c114, hp, h115⟩ := hp
  obtain ⟨r112, hr⟩ : ∃ r, search_Search o_ l_ = r := ⟨_, rfl⟩
  replace hm := hm r112 hr
  rw [hr] at hp h115
  clear hr
  subst hp
  replace hm := hm (h115.sm kr)
  refine eP T hS ⟨[(1, Sl a2 l_ c2), (2, Pt 3 0), (5, Sl a113 r112.1 c114), (6, I r112.2)], [(3, (24, [I o_.States, I o_.Kinds, I o_.Init, Sl a1 o_.Rows c1]))]⟩ fun a hS => ?_
  refine regO ?_
  refine oP T hS 2 ⟨[(1, Sl a2 l_ c2), (2, Pt 3 0), (5, Sl a113 r112.1 c114), (6, I r112.2), (32, V (.agg #[.int .i64 o_.States, .int .i64 o_.Kinds, .int .i64 o_.Init, .slice a1 o_.Rows.length c1])), (33, Sl a2 l_ c2)], [(3, (24, [I o_.States, I o_.Kinds, I o_.Init, Sl a1 o_.Rows c1]))]⟩ fun a hS => ?_
  obtain ⟨hq, hm⟩ := hm
  refine op1 (call hS kr kr hb9 kr (fun _ _ => rfl) (k9 _ _ o_ l_ a1 c1 a2 c2 hq h1 h2) ?_)
  intro v116 a w117 χ118 hE hp hS
  clear hq
  replace hO := hO.mv hE rfl rfl
  replace h1 := h1.mv hE rfl
  replace h2 := h2.mv hE rfl
  replace h115 := h115.mv hE rfl
  clear hE
  obtain ⟨r119, hr⟩ : ∃ r, search_Lin o_ l_ = r := ⟨_, rfl⟩
  replace hm := hm r119 hr
  rw [hr] at hp
  clear hr
  subst hp
  refine eP T hS ⟨[(1, Sl a2 l_ c2), (2, Pt 3 0), (5, Sl a113 r112.1 c114), (6, I r112.2), (7, B r119.1), (8, I r119.2)], [(3, (24, [I o_.States, I o_.Kinds, I o_.Init, Sl a1 o_.Rows c1]))]⟩ fun a hS => ?_
  refine regO ?_
  refine oP T hS 2 ⟨[(1, Sl a2 l_ c2), (2, Pt 3 0), (5, Sl a113 r112.1 c114), (6, I r112.2), (7, B r119.1), (8, I r119.2), (38, V (.agg #[.int .i64 o_.States, .int .i64 o_.Kinds, .int .i64 o_.Init, .slice a1 o_.Rows.length c1])), (39, Sl a2 l_ c2)], [(3, (24, [I o_.States, I o_.Kinds, I o_.Init, Sl a1 o_.Rows c1]))]⟩ fun a hS => ?_
  obtain ⟨hq, hm⟩ := hm
  refine op1 (call hS kr kr hb10 kr (fun _ _ => rfl) (k10 _ _ o_ l_ a1 c1 a2 c2 hq h1 h2) ?_)
  intro v120 a w121 χ122 hE hp hS
  clear hq
  replace hO := hO.mv hE rfl rfl
  replace h1 := h1.mv hE rfl
  replace h2 := h2.mv hE rfl
  replace h115 := h115.mv hE rfl
  clear hE
  obtain ⟨r123, hr⟩ : ∃ r, search_Count o_ l_ = r := ⟨_, rfl⟩
  replace hm := hm r123 hr
  rw [hr] at hp
  clear hr
  subst hp
  refine eP T hS ⟨[(1, Sl a2 l_ c2), (2, Pt 3 0), (5, Sl a113 r112.1 c114), (6, I r112.2), (7, B r119.1), (8, I r119.2), (9, I r123.1), (10, I r123.2)], [(3, (24, [I o_.States, I o_.Kinds, I o_.Init, Sl a1 o_.Rows c1]))]⟩ fun a hS => ?_
  refine wseq ?_
  refine regO ?_
  refine oP T hS 2 ⟨[(1, Sl a2 l_ c2), (2, Pt 3 0), (5, Sl a113 r112.1 c114), (6, I r112.2), (7, B r119.1), (8, I r119.2), (9, I r123.1), (10, I r123.2), (43, V (.agg #[.int .i64 o_.States, .int .i64 o_.Kinds, .int .i64 o_.Init, .slice a1 o_.Rows.length c1])), (44, Sl a2 l_ c2)], [(3, (24, [I o_.States, I o_.Kinds, I o_.Init, Sl a1 o_.Rows c1]))]⟩ fun a hS => ?_
  refine op1 (call hS kr kr hb11 kr (fun _ _ => rfl) (k11 _ _ o_ l_ 20 a1 c1 a2 c2 h1 h2) ?_)
  intro v124 a w125 χ126 hE hp hS
  replace hO := hO.mv hE rfl rfl
  replace h1 := h1.mv hE rfl
  replace h2 := h2.mv hE rfl
  replace h115 := h115.mv hE rfl
  clear hE
  obtain ⟨r127, hr⟩ : ∃ r, ref30_Check o_ l_ 20 = r := ⟨_, rfl⟩
  replace hm := hm r127 hr
  rw [hr] at hp
  clear hr
  subst hp
  refine eP T hS ⟨[(1, Sl a2 l_ c2), (2, Pt 3 0), (5, Sl a113 r112.1 c114), (6, I r112.2), (7, B r119.1), (8, I r119.2), (9, I r123.1), (10, I r123.2), (11, I r127)], [(3, (24, [I o_.States, I o_.Kinds, I o_.Init, Sl a1 o_.Rows c1]))]⟩ fun a hS => ?_
  refine rP T hS ⟨[(1, Sl a2 l_ c2), (2, Pt 3 0), (5, Sl a113 r112.1 c114), (6, I r112.2), (7, B r119.1), (8, I r119.2), (9, I r123.1), (10, I r123.2), (11, I r127), (47, B (r127 != 0))], [(3, (24, [I o_.States, I o_.Kinds, I o_.Init, Sl a1 o_.Rows c1]))]⟩ fun a hS => ?_
  refine wcond hS (b := (r127 != 0)) kr (fun hb => ?_) (fun hb => ?_)
  ·replace hm := hm.1 hb
   refine regO ?_
   refine oP T hS 22 ⟨[(69, B (((((r112.2 == r127) && (r119.2 == r127)) && (!r119.1)) && (((r112.1.length : Nat) : Int) == 0)) && (r123.2 != 0)))], []⟩ (sp := [51, 56, 60, 65]) fun a hS => ?_
   rcases Bool.eq_false_or_eq_true (((((r112.2 == r127) && (r119.2 == r127)) && (!r119.1)) && (((r112.1.length : Nat) : Int) == 0)) && (r123.2 != 0)) with hb | hb
   ·replace hS := hS.lit (t := 69) kr hb
    replace hm := hm.1 hb
    refine op1 (call hS kr kr hb7 kr (fun _ _ => rfl) (k7 _ _) ?_)
    intro v128 a w129 χ130 hE hp hS
    replace hO := hO.mv hE rfl rfl
    clear hE
    obtain ⟨r131, hr⟩ : ∃ r, law30_awake = r := ⟨_, rfl⟩
    replace hm := hm r131 hr
    rw [hr] at hp
    clear hr
    subst hp
    refine eP T hS ⟨[(4, B r131)], []⟩ fun a hS => ?_
    refine wret ?_
    exact fin T hS hO (fun c => c) rfl (r := [.bool r131]) kr (fun χ' hM hC => ⟨r131, hm, rfl⟩)
   ·replace hS := hS.lit (t := 69) kr hb
    replace hm := hm.2 hb
    refine eP T hS ⟨[(4, B false)], []⟩ fun a hS => ?_
    refine wret ?_
    exact fin T hS hO (fun c => c) rfl (r := [.bool false]) kr (fun χ' hM hC => ⟨false, hm, rfl⟩)
  ·replace hm := hm.2 hb
   refine wskip ?_
   refine wseq ?_
   refine regO ?_
   refine oP T hS 2 ⟨[(1, Sl a2 l_ c2), (2, Pt 3 0), (5, Sl a113 r112.1 c114), (6, I r112.2), (7, B r119.1), (8, I r119.2), (9, I r123.1), (10, I r123.2), (72, V (.agg #[.int .i64 o_.States, .int .i64 o_.Kinds, .int .i64 o_.Init, .slice a1 o_.Rows.length c1])), (73, Sl a2 l_ c2)], [(3, (24, [I o_.States, I o_.Kinds, I o_.Init, Sl a1 o_.Rows c1]))]⟩ fun a hS => ?_
   refine op1 (call hS kr kr hb11 kr (fun _ _ => rfl) (k11 _ _ o_ l_ 6 a1 c1 a2 c2 h1 h2) ?_)
   intro v132 a w133 χ134 hE hp hS
   replace hO := hO.mv hE rfl rfl
   replace h1 := h1.mv hE rfl
   replace h2 := h2.mv hE rfl
   replace h115 := h115.mv hE rfl
   clear hE
   obtain ⟨r135, hr⟩ : ∃ r, ref30_Check o_ l_ 6 = r := ⟨_, rfl⟩
   replace hm := hm r135 hr
   rw [hr] at hp
   clear hr
   subst hp
   refine eP T hS ⟨[(1, Sl a2 l_ c2), (2, Pt 3 0), (5, Sl a113 r112.1 c114), (6, I r112.2), (7, B r119.1), (8, I r119.2), (9, I r123.1), (10, I r123.2), (12, I r135)], [(3, (24, [I o_.States, I o_.Kinds, I o_.Init, Sl a1 o_.Rows c1]))]⟩ fun a hS => ?_
   refine rP T hS ⟨[(1, Sl a2 l_ c2), (2, Pt 3 0), (5, Sl a113 r112.1 c114), (6, I r112.2), (7, B r119.1), (8, I r119.2), (9, I r123.1), (10, I r123.2), (12, I r135), (81, B ((r135 != 0) || (decide (((l_.length : Nat) : Int) > 5))))], [(3, (24, [I o_.States, I o_.Kinds, I o_.Init, Sl a1 o_.Rows c1]))]⟩ (sp := [77]) fun a hS => ?_
   refine wcond hS (b := ((r135 != 0) || (decide (((l_.length : Nat) : Int) > 5)))) kr (fun hb => ?_) (fun hb => ?_)
   ·replace hm := hm.1 hb
    refine regO ?_
    refine oP T hS 12 ⟨[(93, B ((r135 == 0) || ((r123.2 == r135) && (r123.1 == 0))))], []⟩ (sp := [84, 88]) fun a hS => ?_
    rcases Bool.eq_false_or_eq_true ((r135 == 0) || ((r123.2 == r135) && (r123.1 == 0))) with hb | hb
    ·replace hS := hS.lit (t := 93) kr hb
     replace hm := hm.1 hb
     refine op1 (call hS kr kr hb7 kr (fun _ _ => rfl) (k7 _ _) ?_)
     intro v136 a w137 χ138 hE hp hS
     replace hO := hO.mv hE rfl rfl
     clear hE
     obtain ⟨r139, hr⟩ : ∃ r, law30_awake = r := ⟨_, rfl⟩
     replace hm := hm r139 hr
     rw [hr] at hp
     clear hr
     subst hp
     refine eP T hS ⟨[(4, B r139)], []⟩ fun a hS => ?_
     refine wret ?_
     exact fin T hS hO (fun c => c) rfl (r := [.bool r139]) kr (fun χ' hM hC => ⟨r139, hm, rfl⟩)
    ·replace hS := hS.lit (t := 93) kr hb
     replace hm := hm.2 hb
     refine eP T hS ⟨[(4, B false)], []⟩ fun a hS => ?_
     refine wret ?_
     exact fin T hS hO (fun c => c) rfl (r := [.bool false]) kr (fun χ' hM hC => ⟨false, hm, rfl⟩)
   ·replace hm := hm.2 hb
    refine wskip ?_
    refine regO ?_
    refine oP T hS 2 ⟨[(5, Sl a113 r112.1 c114), (6, I r112.2), (7, B r119.1), (8, I r119.2), (9, I r123.1), (10, I r123.2), (96, V (.agg #[.int .i64 o_.States, .int .i64 o_.Kinds, .int .i64 o_.Init, .slice a1 o_.Rows.length c1])), (97, Sl a2 l_ c2)], []⟩ fun a hS => ?_
    obtain ⟨hq, hm⟩ := hm
    refine op1 (call hS kr kr hb12 kr (fun _ _ => rfl) (k12 _ _ o_ l_ a1 c1 a2 c2 hq h1 h2) ?_)
    intro v140 a w141 χ142 hE hp hS
    clear hq
    replace hO := hO.mv hE rfl rfl
    replace h1 := h1.mv hE rfl
    replace h2 := h2.mv hE rfl
    replace h115 := h115.mv hE rfl
    clear hE
    obtain ⟨a144, c145, hp, h146⟩ := hp
    obtain ⟨r143, hr⟩ : ∃ r, ref30_All o_ l_ = r := ⟨_, rfl⟩
    replace hm := hm r143 hr
    rw [hr] at hp h146
    clear hr
    subst hp
    replace hm := hm (h146.sm kr)
    refine eP T hS ⟨[(5, Sl a113 r112.1 c114), (6, I r112.2), (7, B r119.1), (8, I r119.2), (9, I r123.1), (10, I r123.2), (13, Sl a144 r143 c145)], []⟩ fun a hS => ?_
    refine regO ?_
    refine oP T hS 1 ⟨[(5, Sl a113 r112.1 c114), (6, I r112.2), (7, B r119.1), (8, I r119.2), (9, I r123.1), (10, I r123.2), (13, Sl a144 r143 c145), (100, Sl a144 r143 c145)], []⟩ fun a hS => ?_
    refine op1 (call hS kr kr hb13 kr (fun _ _ => rfl) (k13 _ _ r143 a144 c145 h146) ?_)
    intro v147 a w148 χ149 hE hp hS
    replace hO := hO.mv hE rfl rfl
    replace h115 := h115.mv hE rfl
    replace h146 := h146.mv hE rfl
    clear hE
    obtain ⟨a151, c152, hp, h153⟩ := hp
    obtain ⟨r150, hr⟩ : ∃ r, ref30_First r143 = r := ⟨_, rfl⟩
    replace hm := hm r150 hr
    rw [hr] at hp h153
    clear hr
    subst hp
    replace hm := hm (h153.sm kr)
    refine eP T hS ⟨[(5, Sl a113 r112.1 c114), (6, I r112.2), (7, B r119.1), (8, I r119.2), (9, I r123.1), (10, I r123.2), (13, Sl a144 r143 c145), (14, Sl a151 r150.1 c152), (15, B r150.2)], []⟩ fun a hS => ?_
    refine wseq ?_
    refine wcut (fun a w => ∃ (ρ : Nat → Nat) (χ : Nat → Nat) (x_155 : Bool), VC3_J1 Q r119 r123 r143 r150 x_155 ∧ St Try.f3.ntmps ⟨[(7, B r119.1), (8, I r119.2), (9, I r123.1), (10, I r123.2), (13, Sl a144 r143 c145), (15, B r150.2), (121, B x_155)], []⟩ ρ a w χ ∧ Old w0 χ0 w χ ∧ RS (tSlice tApi_Pick) w χ a144 r143 c145) ?_ ?_
    ·refine region ?_
     refine oP T hS 13 ⟨[(5, Sl a113 r112.1 c114), (7, B r119.1), (8, I r119.2), (9, I r123.1), (10, I r123.2), (13, Sl a144 r143 c145), (14, Sl a151 r150.1 c152), (15, B r150.2), (116, B (((r112.2 == 0) != r150.2) || ((!r150.2) && (r112.2 != 41))))], []⟩ (sp := [108, 111]) fun a hS => ?_
     rcases Bool.eq_false_or_eq_true (((r112.2 == 0) != r150.2) || ((!r150.2) && (r112.2 != 41))) with hb | hb
     ·replace hS := hS.lit (t := 116) kr hb
      replace hm := hm.1 hb
      refine eP T hS ⟨[(7, B r119.1), (8, I r119.2), (9, I r123.1), (10, I r123.2), (13, Sl a144 r143 c145), (15, B r150.2), (121, B true)], []⟩ fun a hS => ?_
      exact ⟨ρ, _, true, hm, hS.sl _, hO, h146⟩
     ·replace hS := hS.lit (t := 116) kr hb
      replace hm := hm.2 hb
      refine oP T hS 2 ⟨[(7, B r119.1), (8, I r119.2), (9, I r123.1), (10, I r123.2), (13, Sl a144 r143 c145), (15, B r150.2), (116, B false), (117, Sl a113 r112.1 c114), (118, Sl a151 r150.1 c152)], []⟩ fun a hS => ?_
      refine op1 (call hS kr kr hb14 kr (fun _ _ => rfl) (k14 _ _ r112.1 r150.1 a113 c114 a151 c152 h115 h153) ?_)
      intro v160 a w161 χ162 hE hp hS
      replace hO := hO.mv hE rfl rfl
      replace h115 := h115.mv hE rfl
      replace h146 := h146.mv hE rfl
      replace h153 := h153.mv hE rfl
      clear hE
      obtain ⟨r163, hr⟩ : ∃ r, ref28_Same r112.1 r150.1 = r := ⟨_, rfl⟩
      replace hm := hm r163 hr
      rw [hr] at hp
      clear hr
      subst hp
      refine eP T hS ⟨[(7, B r119.1), (8, I r119.2), (9, I r123.1), (10, I r123.2), (13, Sl a144 r143 c145), (15, B r150.2), (121, B (!r163))], []⟩ fun a hS => ?_
      exact ⟨ρ, _, (!r163), hm, hS.sl _, hO, h146⟩
    ·rintro a w165 ⟨ρ, χ164, x_155, hm, hS, hO, h154⟩
     unfold VC3_J1 at hm
     refine wcond hS (b := x_155) kr (fun hb => ?_) (fun hb => ?_)
     ·replace hm := hm.1 hb
      refine rP T hS ⟨[(4, B false)], []⟩ fun a hS => ?_
      refine wret ?_
      exact fin T hS hO (fun c => c) rfl (r := [.bool false]) kr (fun χ' hM hC => ⟨false, hm, rfl⟩)
     ·replace hm := hm.2 hb
      refine wskip ?_
      refine regO ?_
      refine oP T hS 18 ⟨[(139, B ((((r119.1 == r150.2) && (r119.2 == 0)) && (r123.1 == ((r143.length : Nat) : Int))) && (r123.2 == 0)))], []⟩ (sp := [125, 129, 135]) fun a hS => ?_
      rcases Bool.eq_false_or_eq_true ((((r119.1 == r150.2) && (r119.2 == 0)) && (r123.1 == ((r143.length : Nat) : Int))) && (r123.2 == 0)) with hb | hb
      ·replace hS := hS.lit (t := 139) kr hb
       replace hm := hm.1 hb
       refine op1 (call hS kr kr hb7 kr (fun _ _ => rfl) (k7 _ _) ?_)
       intro v156 a w157 χ158 hE hp hS
       replace hO := hO.mv hE rfl rfl
       clear hE
       obtain ⟨r159, hr⟩ : ∃ r, law30_awake = r := ⟨_, rfl⟩
       replace hm := hm r159 hr
       rw [hr] at hp
       clear hr
       subst hp
       refine eP T hS ⟨[(4, B r159)], []⟩ fun a hS => ?_
       refine wret ?_
       exact fin T hS hO (fun c => c) rfl (r := [.bool r159]) kr (fun χ' hM hC => ⟨r159, hm, rfl⟩)
      ·replace hS := hS.lit (t := 139) kr hb
       replace hm := hm.2 hb
       refine eP T hS ⟨[(4, B false)], []⟩ fun a hS => ?_
       refine wret ?_
       exact fin T hS hO (fun c => c) rfl (r := [.bool false]) kr (fun χ' hM hC => ⟨false, hm, rfl⟩)
end Go.Proofs.Ytomodhnocjmfpaa
