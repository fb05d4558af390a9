/- Walks: each function returns what its condition asks. Condition: the contracts of its callees, handed in. -/
import Derived.Test.YtcjldfbgccmpkaaDoorHWalksS
set_option linter.all false
namespace Go.Proofs.YtcjldfbgccmpkaaDoor
open Go Go.Sv
set_option maxHeartbeats 1000000
/-- replevin/replevinref05.Digits -/
theorem W56 (w0 : World) (χ0 : Nat → Nat) (n_ : Int) (Q : (List UInt8) → Prop) (hm : VC56 n_ Q) :
  Ret Tryd.prog 56 #[.int .i64 n_] xnone w0 χ0 (fun w χ' v => ∃ r, Q r ∧ v = .string (bs r)) := by
 unfold VC56 at hm
 refine enter Tryd.func56 rfl (vals := [.int .i64 n_]) kr ?_
 intro ρ a hS hO hM
 clear hM
 refine rP T hS ⟨[(0, I n_)], []⟩ fun a hS => ?_
 refine wseq ?_
 refine rP T hS ⟨[(0, I n_), (7, B (n_ == 0))], []⟩ fun a hS => ?_
 refine wcond hS (b := (n_ == 0)) kr (fun hb => ?_) (fun hb => ?_)
 ·replace hm := hm.1 hb
  refine rP T hS ⟨[(2, Z ([48] : List UInt8))], []⟩ fun a hS => ?_
  refine wret ?_
  exact fin T hS hO (fun c => c) rfl (r := [.string (bs ([48] : List UInt8))]) kr (fun χ' hM hC => ⟨([48] : List UInt8), hm, rfl⟩)
 ·replace hm := hm.2 hb
  refine wskip ?_
  refine rP T hS ⟨[(0, I n_), (3, Z ([] : List UInt8))], []⟩ fun a hS => ?_
  refine wcut (fun a w => ∃ (ρ : Nat → Nat) (χ : Nat → Nat) (out_101 : List UInt8), VC56_J1 n_ Q out_101 ∧ St Tryd.f56.ntmps ⟨[(0, I n_), (3, Z out_101)], []⟩ ρ a w χ ∧ Old w0 χ0 w χ) ?_ ?_
  ·refine rP T hS ⟨[(0, I n_), (3, Z ([] : List UInt8)), (4, I n_)], []⟩ fun a hS => ?_
   refine wblock ?_
   obtain ⟨I1, μ1, hm0, hm⟩ := hm
   refine wloop (σ := (List UInt8) × Int) (fun s a w => ∃ (ρ : Nat → Nat) (χ : Nat → Nat), I1 s.1 s.2 ∧ St Tryd.f56.ntmps ⟨[(0, I n_), (3, Z s.1), (4, I s.2)], []⟩ ρ a w χ ∧ Old w0 χ0 w χ) (fun s => μ1 s.1 s.2) (⟨([] : List UInt8), n_⟩) ?_ ?_
   ·exact ⟨ρ, _, hm0, hS.sl _, hO⟩
   ·rintro ⟨out_102, x_103⟩ a w112 ⟨ρ, χ111, hI, hS, hO⟩
    replace hm := hm out_102 x_103 hI
    clear hI hm0
    refine wseq ?_
    refine rP T hS ⟨[(0, I n_), (3, Z out_102), (4, I x_103), (10, B (x_103 != 0))], []⟩ fun a hS => ?_
    refine wcond hS (b := (x_103 != 0)) kr (fun hb => ?_) (fun hb => ?_)
    ·replace hm := hm.1 hb
     refine wskip ?_
     refine wseq ?_
     refine wblock ?_
     refine regO ?_
     refine oP T hS 1 ⟨[(0, I n_), (3, Z out_102), (4, I x_103), (13, I x_103)], []⟩ fun a hS => ?_
     refine op1 (rem (k := .i64) (p := x_103) (q := 10) hS kr kr kr kr (by decide) ?_)
     intro a hS
     refine eP T hS ⟨[(0, I n_), (3, Z out_102), (4, I x_103), (5, I ((x_103).tmod 10))], []⟩ fun a hS => ?_
     refine wcut (fun a w => ∃ (ρ : Nat → Nat) (χ : Nat → Nat) (d_104 : Int), VC56_J2 I1 μ1 out_102 x_103 d_104 ∧ St Tryd.f56.ntmps ⟨[(0, I n_), (3, Z out_102), (4, I x_103), (5, I d_104)], []⟩ ρ a w χ ∧ Old w0 χ0 w χ) ?_ ?_
     ·refine rP T hS ⟨[(0, I n_), (3, Z out_102), (4, I x_103), (5, I ((x_103).tmod 10)), (16, B (decide (((x_103).tmod 10) < 0)))], []⟩ fun a hS => ?_
      refine wcond hS (b := decide (((x_103).tmod 10) < 0)) kr (fun hb => ?_) (fun hb => ?_)
      ·replace hm := hm.1 hb
       refine region (eP T hS ⟨[(0, I n_), (3, Z out_102), (4, I x_103), (5, I (IntKind.i64.wrap (0 - ((x_103).tmod 10))))], []⟩ fun a hS => ?_)
       exact ⟨ρ, _, IntKind.i64.wrap (0 - ((x_103).tmod 10)), hm, hS.sl _, hO⟩
      ·replace hm := hm.2 hb
       refine wskip ?_
       exact ⟨ρ, _, ((x_103).tmod 10), hm, hS.sl _, hO⟩
     ·rintro a w110 ⟨ρ, χ109, d_104, hm, hS, hO⟩
      unfold VC56_J2 at hm
      refine region ?_
      refine oP T hS 3 ⟨[(0, I n_), (3, Z out_102), (4, I x_103), (21, V (.int .u8 (IntKind.u8.wrap (IntKind.i64.wrap (48 + d_104)))))], []⟩ fun a hS => ?_
      refine op1 (lit (E := 5) (col := 0) (T := (tInt .u8 1)) (vals := [.int .u8 (IntKind.u8.wrap (IntKind.i64.wrap (48 + d_104)))]) (ys := [IntKind.u8.wrap (IntKind.i64.wrap (48 + d_104))]) T hS kr kr kr kr (by exact ⟨rfl, trivial⟩) rfl kr kr kr kr ?_)
      intro b105 a w106 χ107 hE h108 hN hS
      clear hN
      replace hO := hO.mv hE rfl rfl
      clear hE
      replace h108 := h108.rs0
      obtain ⟨news, hN⟩ := h108.src
      refine op1 (cvtS (b := 1) (ys := [IntKind.u8.wrap (IntKind.i64.wrap (48 + d_104))]) T hS kr kr kr kr kr hN ?_)
      intro a hS
      clear hN
      refine oP T hS 1 ⟨[(0, I n_), (3, Z out_102), (4, I x_103), (23, Z (ofBytes [IntKind.u8.wrap (IntKind.i64.wrap (48 + d_104))])), (24, Z out_102)], []⟩ fun a hS => ?_
      obtain ⟨hq, hm⟩ := hm
      refine op1 (sadd (p := (ofBytes [IntKind.u8.wrap (IntKind.i64.wrap (48 + d_104))])) (q := out_102) hS kr kr kr kr hq ?_)
      intro a hS
      clear hq
      refine eP T hS ⟨[(0, I n_), (3, Z ((ofBytes [IntKind.u8.wrap (IntKind.i64.wrap (48 + d_104))]) ++ out_102)), (4, I x_103)], []⟩ fun a hS => ?_
      refine region ?_
      refine oP T hS 1 ⟨[(0, I n_), (3, Z ((ofBytes [IntKind.u8.wrap (IntKind.i64.wrap (48 + d_104))]) ++ out_102)), (4, I x_103), (11, I x_103)], []⟩ fun a hS => ?_
      refine op1 (quo (k := .i64) (p := x_103) (q := 10) hS kr kr kr kr (by decide) ?_)
      intro a hS
      refine eP T hS ⟨[(0, I n_), (3, Z ((ofBytes [IntKind.u8.wrap (IntKind.i64.wrap (48 + d_104))]) ++ out_102)), (4, I (IntKind.i64.wrap ((x_103).tdiv 10)))], []⟩ fun a hS => ?_
      exact ⟨⟨((ofBytes [IntKind.u8.wrap (IntKind.i64.wrap (48 + d_104))]) ++ out_102), IntKind.i64.wrap ((x_103).tdiv 10)⟩, ⟨ρ, _, hm.1, hS.sl _, hO⟩, hm.2⟩
    ·replace hm := hm.2 hb
     refine wexit (by rfl) ?_
     exact ⟨ρ, _, out_102, hm, hS.sl _, hO⟩
  ·rintro a w114 ⟨ρ, χ113, out_101, hm, hS, hO⟩
   unfold VC56_J1 at hm
   refine wseq ?_
   refine rP T hS ⟨[(3, Z out_101), (27, B (decide (n_ < 0)))], []⟩ fun a hS => ?_
   refine wcond hS (b := decide (n_ < 0)) kr (fun hb => ?_) (fun hb => ?_)
   ·replace hm := hm.1 hb
    refine regO ?_
    refine oP T hS 1 ⟨[(28, Z out_101)], []⟩ fun a hS => ?_
    obtain ⟨hq, hm⟩ := hm
    refine op1 (sadd (p := ([45] : List UInt8)) (q := out_101) hS kr kr kr kr hq ?_)
    intro a hS
    clear hq
    refine eP T hS ⟨[(2, Z (([45] : List UInt8) ++ out_101))], []⟩ fun a hS => ?_
    refine wret ?_
    exact fin T hS hO (fun c => c) rfl (r := [.string (bs (([45] : List UInt8) ++ out_101))]) kr (fun χ' hM hC => ⟨(([45] : List UInt8) ++ out_101), hm, rfl⟩)
   ·replace hm := hm.2 hb
    refine wskip ?_
    refine rP T hS ⟨[(2, Z out_101)], []⟩ fun a hS => ?_
    refine wret ?_
    exact fin T hS hO (fun c => c) rfl (r := [.string (bs out_101)]) kr (fun χ' hM hC => ⟨out_101, hm, rfl⟩)
theorem C56 (v : ∀ (n_ : Int), preI n_ → VC56 n_ (fun r => r = ref05_Digits n_)) : S56 := by
 intro w χ n_    hp 
 refine (W56 w χ n_    _ (v n_ hp)).mono ?_
 rintro _ _ _ _ ⟨r, rfl, h⟩
 exact h
/-- replevin/replevinref23.Check -/
theorem W35 (w0 : World) (χ0 : Nat → Nat) (o_ : Api_Object) (a1 : Option Addr) (c1 : Nat) (Q : Int × Int → Prop) (hm : VC35 o_ Q) (h1 : RS tApi_Row w0 χ0 a1 o_.Rows c1) :
  Ret Tryd.prog 35 #[.agg #[.int .i64 o_.States, .int .i64 o_.Kinds, .int .i64 o_.Init, .slice a1 o_.Rows.length c1]] xnone w0 χ0 (fun w χ' v => ∃ r, Q r ∧ v = .tuple #[.int .i64 r.1, .int .i64 r.2]) := by
 unfold VC35 at hm
 replace hm := hm (h1.sm kr)
 refine enter Tryd.func35 rfl (vals := [.agg #[.int .i64 o_.States, .int .i64 o_.Kinds, .int .i64 o_.Init, .slice a1 o_.Rows.length c1]]) kr ?_
 intro ρ a hS hO hM
 replace h1 := h1.m0 hM
 clear hM
 refine rM T hS ⟨[(1, Pt 2 0)], [(2, (25, [I o_.States, I o_.Kinds, I o_.Init, Sl a1 o_.Rows c1]))]⟩ fun ρ a w134 χ135 hS hE hr => ?_
 replace hO := hO.mv hE rfl rfl
 replace h1 := h1.mv hE rfl
 clear hE hr
 refine wseq ?_
 refine rP T hS ⟨[(1, Pt 2 0), (35, B ((((((decide (o_.States < 1)) || (decide (o_.States > 32))) || (decide (o_.Kinds < 1))) || (decide (o_.Kinds > 64))) || (decide (o_.Init < 0))) || (decide (o_.Init ≥ o_.States))))], [(2, (25, [I o_.States, I o_.Kinds, I o_.Init, Sl a1 o_.Rows c1]))]⟩ (sp := [9, 14, 19, 24, 29]) fun a hS => ?_
 refine wcond hS (b := ((((((decide (o_.States < 1)) || (decide (o_.States > 32))) || (decide (o_.Kinds < 1))) || (decide (o_.Kinds > 64))) || (decide (o_.Init < 0))) || (decide (o_.Init ≥ o_.States)))) kr (fun hb => ?_) (fun hb => ?_)
 ·replace hm := hm.1 hb
  refine rP T hS ⟨[(2, I (-1)), (3, I 2)], []⟩ fun a hS => ?_
  refine wret ?_
  exact fin T hS hO (fun c => c) rfl (r := [.int .i64 (-1), .int .i64 2]) kr (fun χ' hM hC => ⟨((-1), 2), hm, rfl⟩)
 ·replace hm := hm.2 hb
  refine wskip ?_
  refine wcut (fun a w => ∃ (ρ : Nat → Nat) (χ : Nat → Nat), VC35_J1 o_ Q ∧ St Tryd.f35.ntmps ⟨[(1, Pt 2 0)], [(2, (25, [I o_.States, I o_.Kinds, I o_.Init, Sl a1 o_.Rows c1]))]⟩ ρ a w χ ∧ Old w0 χ0 w χ ∧ RS tApi_Row w χ a1 o_.Rows c1) ?_ ?_
  ·refine rP T hS ⟨[(1, Pt 2 0), (4, I 0)], [(2, (25, [I o_.States, I o_.Kinds, I o_.Init, Sl a1 o_.Rows c1]))]⟩ fun a hS => ?_
   refine wblock ?_
   obtain ⟨I1, μ1, hm0, hm⟩ := hm
   refine wloop (σ := Int) (fun s a w => ∃ (ρ : Nat → Nat) (χ : Nat → Nat), I1 s ∧ St Tryd.f35.ntmps ⟨[(1, Pt 2 0), (4, I s)], [(2, (25, [I o_.States, I o_.Kinds, I o_.Init, Sl a1 o_.Rows c1]))]⟩ ρ a w χ ∧ Old w0 χ0 w χ ∧ RS tApi_Row w χ a1 o_.Rows c1) (fun s => μ1 s) (0) ?_ ?_
   ·exact ⟨ρ, _, hm0, hS.sl _, hO, h1⟩
   ·rintro i_102 a w131 ⟨ρ, χ130, hI, hS, hO, h103⟩
    replace hm := hm i_102 hI
    clear hI hm0
    refine wseq ?_
    refine rP T hS ⟨[(1, Pt 2 0), (4, I i_102), (40, B (decide (i_102 < ((o_.Rows.length : Nat) : Int))))], [(2, (25, [I o_.States, I o_.Kinds, I o_.Init, Sl a1 o_.Rows c1]))]⟩ fun a hS => ?_
    refine wcond hS (b := decide (i_102 < ((o_.Rows.length : Nat) : Int))) kr (fun hb => ?_) (fun hb => ?_)
    ·replace hm := hm.1 hb
     refine wskip ?_
     refine wseq ?_
     refine wblock ?_
     refine regO ?_
     refine oP T hS 3 ⟨[(1, Pt 2 0), (4, I i_102), (44, Sl a1 o_.Rows c1), (45, I i_102)], [(2, (25, [I o_.States, I o_.Kinds, I o_.Init, Sl a1 o_.Rows c1]))]⟩ fun a hS => ?_
     obtain ⟨hq, hm⟩ := hm
     refine op1 (index (e := 99) (k := .i64) T hS kr kr kr kr h103 kr kr hq.1 hq.2 ?_)
     intro A104 a h105 hS
     clear hq
     refine op1 (loadA T hS kr kr kr h105 kr kr ?_)
     intro v106 a hv hS
     subst hv
     refine eM T hS ⟨[(1, Pt 2 0), (4, I i_102), (5, Pt 6 0)], [(2, (25, [I o_.States, I o_.Kinds, I o_.Init, Sl a1 o_.Rows c1])), (6, (99, [I ((gi o_.Rows i_102).State), I ((gi o_.Rows i_102).Kind), I ((gi o_.Rows i_102).Next), I ((gi o_.Rows i_102).Result)]))]⟩ fun ρ a w128 χ129 hS hE hr => ?_
     replace hO := hO.mv hE rfl rfl
     replace h103 := h103.mv hE rfl
     clear hE hr
     refine wseq ?_
     refine rP T hS ⟨[(1, Pt 2 0), (4, I i_102), (5, Pt 6 0), (69, B ((((decide (((gi o_.Rows i_102).State) < 0)) || (decide (((gi o_.Rows i_102).State) ≥ o_.States))) || (decide (((gi o_.Rows i_102).Next) < 0))) || (decide (((gi o_.Rows i_102).Next) ≥ o_.States))))], [(2, (25, [I o_.States, I o_.Kinds, I o_.Init, Sl a1 o_.Rows c1])), (6, (99, [I ((gi o_.Rows i_102).State), I ((gi o_.Rows i_102).Kind), I ((gi o_.Rows i_102).Next), I ((gi o_.Rows i_102).Result)]))]⟩ (sp := [51, 58, 63]) fun a hS => ?_
     refine wcond hS (b := ((((decide (((gi o_.Rows i_102).State) < 0)) || (decide (((gi o_.Rows i_102).State) ≥ o_.States))) || (decide (((gi o_.Rows i_102).Next) < 0))) || (decide (((gi o_.Rows i_102).Next) ≥ o_.States)))) kr (fun hb => ?_) (fun hb => ?_)
     ·replace hm := hm.1 hb
      refine rP T hS ⟨[(2, I i_102), (3, I 30)], []⟩ fun a hS => ?_
      refine wret ?_
      exact fin T hS hO (fun c => c) rfl (r := [.int .i64 i_102, .int .i64 30]) kr (fun χ' hM hC => ⟨(i_102, 30), hm, rfl⟩)
     ·replace hm := hm.2 hb
      refine wskip ?_
      refine wseq ?_
      refine rP T hS ⟨[(1, Pt 2 0), (4, I i_102), (5, Pt 6 0), (80, B ((decide (((gi o_.Rows i_102).Kind) < 0)) || (decide (((gi o_.Rows i_102).Kind) ≥ o_.Kinds))))], [(2, (25, [I o_.States, I o_.Kinds, I o_.Init, Sl a1 o_.Rows c1])), (6, (99, [I ((gi o_.Rows i_102).State), I ((gi o_.Rows i_102).Kind), I ((gi o_.Rows i_102).Next), I ((gi o_.Rows i_102).Result)]))]⟩ (sp := [74]) fun a hS => ?_
      refine wcond hS (b := ((decide (((gi o_.Rows i_102).Kind) < 0)) || (decide (((gi o_.Rows i_102).Kind) ≥ o_.Kinds)))) kr (fun hb => ?_) (fun hb => ?_)
      ·replace hm := hm.1 hb
       refine rP T hS ⟨[(2, I i_102), (3, I 31)], []⟩ fun a hS => ?_
       refine wret ?_
       exact fin T hS hO (fun c => c) rfl (r := [.int .i64 i_102, .int .i64 31]) kr (fun χ' hM hC => ⟨(i_102, 31), hm, rfl⟩)
      ·replace hm := hm.2 hb
       refine wskip ?_
       refine wseq ?_
       refine rP T hS ⟨[(1, Pt 2 0), (4, I i_102), (5, Pt 6 0), (89, B ((decide (((gi o_.Rows i_102).Result) < 0)) || (decide (((gi o_.Rows i_102).Result) > 1000000))))], [(2, (25, [I o_.States, I o_.Kinds, I o_.Init, Sl a1 o_.Rows c1])), (6, (99, [I ((gi o_.Rows i_102).State), I ((gi o_.Rows i_102).Kind), I ((gi o_.Rows i_102).Next), I ((gi o_.Rows i_102).Result)]))]⟩ (sp := [85]) fun a hS => ?_
       refine wcond hS (b := ((decide (((gi o_.Rows i_102).Result) < 0)) || (decide (((gi o_.Rows i_102).Result) > 1000000)))) kr (fun hb => ?_) (fun hb => ?_)
       ·replace hm := hm.1 hb
        refine rP T hS ⟨[(2, I i_102), (3, I 7)], []⟩ fun a hS => ?_
        refine wret ?_
        exact fin T hS hO (fun c => c) rfl (r := [.int .i64 i_102, .int .i64 7]) kr (fun χ' hM hC => ⟨(i_102, 7), hm, rfl⟩)
       ·replace hm := hm.2 hb
        refine wskip ?_
        refine wcut (fun a w => ∃ (ρ : Nat → Nat) (χ : Nat → Nat) (x_107 : Bool), VC35_J2 Q I1 μ1 i_102 x_107 ∧ St Tryd.f35.ntmps ⟨[(1, Pt 2 0), (4, I i_102), (128, B x_107)], [(2, (25, [I o_.States, I o_.Kinds, I o_.Init, Sl a1 o_.Rows c1]))]⟩ ρ a w χ ∧ Old w0 χ0 w χ ∧ RS tApi_Row w χ a1 o_.Rows c1) ?_ ?_
        ·refine drawnX [2, 6] mixed hS ?_
         intro w109 χ110 hS hE hD hH
         replace hO := hO.mv hE rfl rfl
         replace h103 := h103.mv hE rfl
         clear hE
         refine take T [0, 1, 2] [2, 6] [1, 4, 5, 93] hS kr kr kr hH (listed' := #[true, true, true, false, false, false, false, false, false, false, false, false, false, false, false, false, false, false, false, false, false, false, false, false, false, false, false, false, false, false, false, false, false, false, false, false, false, false]) (fuel := 35) (sy' := ⟨[(1, Pt 2 0), (4, I i_102), (5, Pt 6 0), (93, B (decide (i_102 > 0)))], [(2, (25, [I o_.States, I o_.Kinds, I o_.Init, Sl a1 o_.Rows c1])), (6, (99, [I ((gi o_.Rows i_102).State), I ((gi o_.Rows i_102).Kind), I ((gi o_.Rows i_102).Next), I ((gi o_.Rows i_102).Result)]))]⟩) (by as_aux_lemma => kernel_rfl) (by rfl) ?_
         intro a hS
         rcases Bool.eq_false_or_eq_true (decide (i_102 > 0)) with hb | hb
         ·replace hS := hS.lit (t := 93) kr hb
          replace hm := hm.1 hb
          refine take T [3, 5, 10, 4, 6, 11] [2, 6] [1, 4, 5, 93, 94, 95, 96, 97, 101, 102] hS kr kr kr hH (listed' := #[true, true, true, true, true, true, true, false, false, false, true, true, false, false, false, false, false, false, false, false, false, false, false, false, false, false, false, false, false, false, false, false, false, false, false, false, false, false]) (fuel := 29) (sy' := ⟨[(1, Pt 2 0), (4, I i_102), (5, Pt 6 0), (93, B true), (94, Pt 2 3), (95, Sl a1 o_.Rows c1), (96, I i_102), (97, I (IntKind.i64.wrap (i_102 - 1))), (101, Pt 6 0), (102, I ((gi o_.Rows i_102).State))], [(2, (25, [I o_.States, I o_.Kinds, I o_.Init, Sl a1 o_.Rows c1])), (6, (99, [I ((gi o_.Rows i_102).State), I ((gi o_.Rows i_102).Kind), I ((gi o_.Rows i_102).Next), I ((gi o_.Rows i_102).Result)]))]⟩) (by as_aux_lemma => kernel_rfl) (by rfl) ?_
          intro a hS
          obtain ⟨hq, hm⟩ := hm
          refine dindex (e := 99) (k := .i64) T 7 hS kr kr kr (by rfl) kr hH kr kr h103 kr kr hq.1 hq.2 ?_
          intro A111 a h112 hS
          clear hq
          have h112b := h112.here
          refine dfieldA (off := 0) (fsz := 1) (ft := 3) (TF := tI) (y := (gi o_.Rows (IntKind.i64.wrap (i_102 - 1))).State) 8 T hS kr kr kr (by rfl) kr hH kr h112 kr kr kr (fun cs h => Api_Row_f0 h) ?_
          intro A113 a h114 hbl hS
          have h114b := h112b
          rw [← hbl] at h114b
          clear hbl
          refine dload1 T 9 hS kr kr kr (by rfl) kr hH kr h114 h114b rfl kr ?_
          intro v115 a hv hS
          cases hv
          refine take T [12, 13] [2, 6] [1, 4, 5, 93, 94, 95, 96, 97, 98, 99, 100, 101, 102, 103, 104] hS kr kr kr hH (listed' := #[true, true, true, true, true, true, true, true, true, true, true, true, true, true, false, false, false, false, false, false, false, false, false, false, false, false, false, false, false, false, false, false, false, false, false, false, false, false]) (fuel := 24) (sy' := ⟨[(1, Pt 2 0), (4, I i_102), (5, Pt 6 0), (93, B true), (94, Pt 2 3), (95, Sl a1 o_.Rows c1), (96, I i_102), (97, I (IntKind.i64.wrap (i_102 - 1))), (98, V (.pointer (some A111))), (99, V (.pointer (some A113))), (100, I ((gi o_.Rows (IntKind.i64.wrap (i_102 - 1))).State)), (101, Pt 6 0), (102, I ((gi o_.Rows i_102).State)), (103, B (decide (((gi o_.Rows (IntKind.i64.wrap (i_102 - 1))).State) > ((gi o_.Rows i_102).State)))), (104, B (decide (((gi o_.Rows (IntKind.i64.wrap (i_102 - 1))).State) > ((gi o_.Rows i_102).State))))], [(2, (25, [I o_.States, I o_.Kinds, I o_.Init, Sl a1 o_.Rows c1])), (6, (99, [I ((gi o_.Rows i_102).State), I ((gi o_.Rows i_102).Kind), I ((gi o_.Rows i_102).Next), I ((gi o_.Rows i_102).Result)]))]⟩) (by as_aux_lemma => kernel_rfl) (by rfl) ?_
          intro a hS
          rcases Bool.eq_false_or_eq_true (decide (((gi o_.Rows (IntKind.i64.wrap (i_102 - 1))).State) > ((gi o_.Rows i_102).State))) with hb | hb
          ·replace hS := hS.lit (t := 104) kr hb
           replace hm := hm.1 hb
           refine take T [14, 16, 21, 15, 17, 22, 18, 19, 20, 23, 24, 25, 27, 32, 26, 28, 33, 29, 30, 31, 34, 35, 36, 37] [2, 6] [1, 4, 94, 95, 96, 97, 98, 99, 100, 101, 102, 103, 104, 105, 106, 107, 108, 109, 110, 111, 112, 113, 114, 115, 116, 117, 118, 119, 120, 121, 122, 123, 124, 125, 126, 127, 128] hS kr kr kr hH (listed' := #[true, true, true, true, true, true, true, true, true, true, true, true, true, true, true, true, true, true, true, true, true, true, true, true, true, true, true, true, true, true, true, true, true, true, true, true, true, true]) (fuel := 0) (sy' := ⟨[(1, Pt 2 0), (4, I i_102), (94, Pt 2 3), (95, Sl a1 o_.Rows c1), (96, I i_102), (97, I (IntKind.i64.wrap (i_102 - 1))), (98, V (.pointer (some A111))), (99, V (.pointer (some A113))), (100, I ((gi o_.Rows (IntKind.i64.wrap (i_102 - 1))).State)), (101, Pt 6 0), (102, I ((gi o_.Rows i_102).State)), (103, B (decide (((gi o_.Rows (IntKind.i64.wrap (i_102 - 1))).State) > ((gi o_.Rows i_102).State)))), (104, B true), (105, V undef), (106, V undef), (107, V undef), (108, V undef), (109, V undef), (110, V undef), (111, V undef), (112, V undef), (113, V undef), (114, V undef), (115, V undef), (116, V undef), (117, V undef), (118, V undef), (119, V undef), (120, V undef), (121, V undef), (122, V undef), (123, V undef), (124, V undef), (125, V undef), (126, V undef), (127, B true), (128, B true)], [(2, (25, [I o_.States, I o_.Kinds, I o_.Init, Sl a1 o_.Rows c1])), (6, (99, [I ((gi o_.Rows i_102).State), I ((gi o_.Rows i_102).Kind), I ((gi o_.Rows i_102).Next), I ((gi o_.Rows i_102).Result)]))]⟩) (by as_aux_lemma => kernel_rfl) (by rfl) ?_
           intro a hS
           refine drawnDone kr ?_
           clear hD hH
           replace hS := hS.sl ⟨[(1, Pt 2 0), (4, I i_102), (94, Pt 2 3), (95, Sl a1 o_.Rows c1), (96, I i_102), (97, I (IntKind.i64.wrap (i_102 - 1))), (98, V (.pointer (some A111))), (99, V (.pointer (some A113))), (100, I ((gi o_.Rows (IntKind.i64.wrap (i_102 - 1))).State)), (101, Pt 6 0), (102, I ((gi o_.Rows i_102).State)), (103, B (decide (((gi o_.Rows (IntKind.i64.wrap (i_102 - 1))).State) > ((gi o_.Rows i_102).State)))), (104, B true), (127, B true), (128, B true)], [(2, (25, [I o_.States, I o_.Kinds, I o_.Init, Sl a1 o_.Rows c1])), (6, (99, [I ((gi o_.Rows i_102).State), I ((gi o_.Rows i_102).Kind), I ((gi o_.Rows i_102).Next), I ((gi o_.Rows i_102).Result)]))]⟩
           exact ⟨ρ, _, true, hm, hS.sl _, hO, h103⟩
          ·replace hS := hS.lit (t := 104) kr hb
           replace hm := hm.2 hb
           refine take T [14, 16, 21, 15, 17, 22] [2, 6] [1, 4, 5, 93, 94, 95, 96, 97, 98, 99, 100, 101, 102, 103, 104, 105, 106, 107, 108, 112, 113] hS kr kr kr hH (listed' := #[true, true, true, true, true, true, true, true, true, true, true, true, true, true, true, true, true, true, false, false, false, true, true, false, false, false, false, false, false, false, false, false, false, false, false, false, false, false]) (fuel := 18) (sy' := ⟨[(1, Pt 2 0), (4, I i_102), (5, Pt 6 0), (93, B true), (94, Pt 2 3), (95, Sl a1 o_.Rows c1), (96, I i_102), (97, I (IntKind.i64.wrap (i_102 - 1))), (98, V (.pointer (some A111))), (99, V (.pointer (some A113))), (100, I ((gi o_.Rows (IntKind.i64.wrap (i_102 - 1))).State)), (101, Pt 6 0), (102, I ((gi o_.Rows i_102).State)), (103, B (decide (((gi o_.Rows (IntKind.i64.wrap (i_102 - 1))).State) > ((gi o_.Rows i_102).State)))), (104, B false), (105, Pt 2 3), (106, Sl a1 o_.Rows c1), (107, I i_102), (108, I (IntKind.i64.wrap (i_102 - 1))), (112, Pt 6 0), (113, I ((gi o_.Rows i_102).State))], [(2, (25, [I o_.States, I o_.Kinds, I o_.Init, Sl a1 o_.Rows c1])), (6, (99, [I ((gi o_.Rows i_102).State), I ((gi o_.Rows i_102).Kind), I ((gi o_.Rows i_102).Next), I ((gi o_.Rows i_102).Result)]))]⟩) (by as_aux_lemma => kernel_rfl) (by rfl) ?_
           intro a hS
           obtain ⟨hq, hm⟩ := hm
           refine dindex (e := 99) (k := .i64) T 18 hS kr kr kr (by rfl) kr hH kr kr h103 kr kr hq.1 hq.2 ?_
           intro A116 a h117 hS
           clear hq
           have h117b := h117.here
           refine dfieldA (off := 0) (fsz := 1) (ft := 3) (TF := tI) (y := (gi o_.Rows (IntKind.i64.wrap (i_102 - 1))).State) 19 T hS kr kr kr (by rfl) kr hH kr h117 kr kr kr (fun cs h => Api_Row_f0 h) ?_
           intro A118 a h119 hbl hS
           have h119b := h117b
           rw [← hbl] at h119b
           clear hbl
           refine dload1 T 20 hS kr kr kr (by rfl) kr hH kr h119 h119b rfl kr ?_
           intro v120 a hv hS
           cases hv
           refine take T [23, 24] [2, 6] [1, 4, 5, 93, 94, 95, 96, 97, 98, 99, 100, 101, 102, 103, 104, 105, 106, 107, 108, 109, 110, 111, 112, 113, 114, 115] hS kr kr kr hH (listed' := #[true, true, true, true, true, true, true, true, true, true, true, true, true, true, true, true, true, true, true, true, true, true, true, true, true, false, false, false, false, false, false, false, false, false, false, false, false, false]) (fuel := 13) (sy' := ⟨[(1, Pt 2 0), (4, I i_102), (5, Pt 6 0), (93, B true), (94, Pt 2 3), (95, Sl a1 o_.Rows c1), (96, I i_102), (97, I (IntKind.i64.wrap (i_102 - 1))), (98, V (.pointer (some A111))), (99, V (.pointer (some A113))), (100, I ((gi o_.Rows (IntKind.i64.wrap (i_102 - 1))).State)), (101, Pt 6 0), (102, I ((gi o_.Rows i_102).State)), (103, B (decide (((gi o_.Rows (IntKind.i64.wrap (i_102 - 1))).State) > ((gi o_.Rows i_102).State)))), (104, B false), (105, Pt 2 3), (106, Sl a1 o_.Rows c1), (107, I i_102), (108, I (IntKind.i64.wrap (i_102 - 1))), (109, V (.pointer (some A116))), (110, V (.pointer (some A118))), (111, I ((gi o_.Rows (IntKind.i64.wrap (i_102 - 1))).State)), (112, Pt 6 0), (113, I ((gi o_.Rows i_102).State)), (114, B (((gi o_.Rows (IntKind.i64.wrap (i_102 - 1))).State) == ((gi o_.Rows i_102).State))), (115, B (((gi o_.Rows (IntKind.i64.wrap (i_102 - 1))).State) == ((gi o_.Rows i_102).State)))], [(2, (25, [I o_.States, I o_.Kinds, I o_.Init, Sl a1 o_.Rows c1])), (6, (99, [I ((gi o_.Rows i_102).State), I ((gi o_.Rows i_102).Kind), I ((gi o_.Rows i_102).Next), I ((gi o_.Rows i_102).Result)]))]⟩) (by as_aux_lemma => kernel_rfl) (by rfl) ?_
           intro a hS
           rcases Bool.eq_false_or_eq_true (((gi o_.Rows (IntKind.i64.wrap (i_102 - 1))).State) == ((gi o_.Rows i_102).State)) with hb | hb
           ·replace hS := hS.lit (t := 115) kr hb
            replace hm := hm.1 hb
            refine take T [25, 27, 32, 26, 28, 33] [2, 6] [1, 4, 93, 94, 95, 96, 97, 98, 99, 100, 101, 102, 103, 104, 105, 106, 107, 108, 109, 110, 111, 112, 113, 114, 115, 116, 117, 118, 119, 123, 124] hS kr kr kr hH (listed' := #[true, true, true, true, true, true, true, true, true, true, true, true, true, true, true, true, true, true, true, true, true, true, true, true, true, true, true, true, true, false, false, false, true, true, false, false, false, false]) (fuel := 7) (sy' := ⟨[(1, Pt 2 0), (4, I i_102), (93, B true), (94, Pt 2 3), (95, Sl a1 o_.Rows c1), (96, I i_102), (97, I (IntKind.i64.wrap (i_102 - 1))), (98, V (.pointer (some A111))), (99, V (.pointer (some A113))), (100, I ((gi o_.Rows (IntKind.i64.wrap (i_102 - 1))).State)), (101, Pt 6 0), (102, I ((gi o_.Rows i_102).State)), (103, B (decide (((gi o_.Rows (IntKind.i64.wrap (i_102 - 1))).State) > ((gi o_.Rows i_102).State)))), (104, B false), (105, Pt 2 3), (106, Sl a1 o_.Rows c1), (107, I i_102), (108, I (IntKind.i64.wrap (i_102 - 1))), (109, V (.pointer (some A116))), (110, V (.pointer (some A118))), (111, I ((gi o_.Rows (IntKind.i64.wrap (i_102 - 1))).State)), (112, Pt 6 0), (113, I ((gi o_.Rows i_102).State)), (114, B (((gi o_.Rows (IntKind.i64.wrap (i_102 - 1))).State) == ((gi o_.Rows i_102).State))), (115, B true), (116, Pt 2 3), (117, Sl a1 o_.Rows c1), (118, I i_102), (119, I (IntKind.i64.wrap (i_102 - 1))), (123, Pt 6 1), (124, I ((gi o_.Rows i_102).Kind))], [(2, (25, [I o_.States, I o_.Kinds, I o_.Init, Sl a1 o_.Rows c1])), (6, (99, [I ((gi o_.Rows i_102).State), I ((gi o_.Rows i_102).Kind), I ((gi o_.Rows i_102).Next), I ((gi o_.Rows i_102).Result)]))]⟩) (by as_aux_lemma => kernel_rfl) (by rfl) ?_
            intro a hS
            obtain ⟨hq, hm⟩ := hm
            refine dindex (e := 99) (k := .i64) T 29 hS kr kr kr (by rfl) kr hH kr kr h103 kr kr hq.1 hq.2 ?_
            intro A121 a h122 hS
            clear hq
            have h122b := h122.here
            refine dfieldA (off := 1) (fsz := 1) (ft := 3) (TF := tI) (y := (gi o_.Rows (IntKind.i64.wrap (i_102 - 1))).Kind) 30 T hS kr kr kr (by rfl) kr hH kr h122 kr kr kr (fun cs h => Api_Row_f1 h) ?_
            intro A123 a h124 hbl hS
            have h124b := h122b
            rw [← hbl] at h124b
            clear hbl
            refine dload1 T 31 hS kr kr kr (by rfl) kr hH kr h124 h124b rfl kr ?_
            intro v125 a hv hS
            cases hv
            refine take T [34, 35, 36, 37] [2, 6] [1, 4, 94, 95, 96, 97, 98, 99, 100, 101, 102, 103, 104, 105, 106, 107, 108, 109, 110, 111, 112, 113, 114, 115, 116, 117, 118, 119, 120, 121, 122, 123, 124, 125, 126, 127, 128] hS kr kr kr hH (listed' := #[true, true, true, true, true, true, true, true, true, true, true, true, true, true, true, true, true, true, true, true, true, true, true, true, true, true, true, true, true, true, true, true, true, true, true, true, true, true]) (fuel := 0) (sy' := ⟨[(1, Pt 2 0), (4, I i_102), (94, Pt 2 3), (95, Sl a1 o_.Rows c1), (96, I i_102), (97, I (IntKind.i64.wrap (i_102 - 1))), (98, V (.pointer (some A111))), (99, V (.pointer (some A113))), (100, I ((gi o_.Rows (IntKind.i64.wrap (i_102 - 1))).State)), (101, Pt 6 0), (102, I ((gi o_.Rows i_102).State)), (103, B (decide (((gi o_.Rows (IntKind.i64.wrap (i_102 - 1))).State) > ((gi o_.Rows i_102).State)))), (104, B false), (105, Pt 2 3), (106, Sl a1 o_.Rows c1), (107, I i_102), (108, I (IntKind.i64.wrap (i_102 - 1))), (109, V (.pointer (some A116))), (110, V (.pointer (some A118))), (111, I ((gi o_.Rows (IntKind.i64.wrap (i_102 - 1))).State)), (112, Pt 6 0), (113, I ((gi o_.Rows i_102).State)), (114, B (((gi o_.Rows (IntKind.i64.wrap (i_102 - 1))).State) == ((gi o_.Rows i_102).State))), (115, B true), (116, Pt 2 3), (117, Sl a1 o_.Rows c1), (118, I i_102), (119, I (IntKind.i64.wrap (i_102 - 1))), (120, V (.pointer (some A121))), (121, V (.pointer (some A123))), (122, I ((gi o_.Rows (IntKind.i64.wrap (i_102 - 1))).Kind)), (123, Pt 6 1), (124, I ((gi o_.Rows i_102).Kind)), (125, B (decide (((gi o_.Rows (IntKind.i64.wrap (i_102 - 1))).Kind) ≥ ((gi o_.Rows i_102).Kind)))), (126, B (decide (((gi o_.Rows (IntKind.i64.wrap (i_102 - 1))).Kind) ≥ ((gi o_.Rows i_102).Kind)))), (127, B (decide (((gi o_.Rows (IntKind.i64.wrap (i_102 - 1))).Kind) ≥ ((gi o_.Rows i_102).Kind)))), (128, B (decide (((gi o_.Rows (IntKind.i64.wrap (i_102 - 1))).Kind) ≥ ((gi o_.Rows i_102).Kind))))], [(2, (25, [I o_.States, I o_.Kinds, I o_.Init, Sl a1 o_.Rows c1])), (6, (99, [I ((gi o_.Rows i_102).State), I ((gi o_.Rows i_102).Kind), I ((gi o_.Rows i_102).Next), I ((gi o_.Rows i_102).Result)]))]⟩) (by as_aux_lemma => kernel_rfl) (by rfl) ?_
            intro a hS
            refine drawnDone kr ?_
            clear hD hH
            replace hS := hS.sl ⟨[(1, Pt 2 0), (4, I i_102), (94, Pt 2 3), (95, Sl a1 o_.Rows c1), (96, I i_102), (97, I (IntKind.i64.wrap (i_102 - 1))), (98, V (.pointer (some A111))), (99, V (.pointer (some A113))), (100, I ((gi o_.Rows (IntKind.i64.wrap (i_102 - 1))).State)), (101, Pt 6 0), (102, I ((gi o_.Rows i_102).State)), (103, B (decide (((gi o_.Rows (IntKind.i64.wrap (i_102 - 1))).State) > ((gi o_.Rows i_102).State)))), (104, B false), (105, Pt 2 3), (106, Sl a1 o_.Rows c1), (107, I i_102), (108, I (IntKind.i64.wrap (i_102 - 1))), (109, V (.pointer (some A116))), (110, V (.pointer (some A118))), (111, I ((gi o_.Rows (IntKind.i64.wrap (i_102 - 1))).State)), (112, Pt 6 0), (113, I ((gi o_.Rows i_102).State)), (114, B (((gi o_.Rows (IntKind.i64.wrap (i_102 - 1))).State) == ((gi o_.Rows i_102).State))), (115, B true), (116, Pt 2 3), (117, Sl a1 o_.Rows c1), (118, I i_102), (119, I (IntKind.i64.wrap (i_102 - 1))), (120, V (.pointer (some A121))), (121, V (.pointer (some A123))), (122, I ((gi o_.Rows (IntKind.i64.wrap (i_102 - 1))).Kind)), (123, Pt 6 1), (124, I ((gi o_.Rows i_102).Kind)), (125, B (decide (((gi o_.Rows (IntKind.i64.wrap (i_102 - 1))).Kind) ≥ ((gi o_.Rows i_102).Kind)))), (126, B (decide (((gi o_.Rows (IntKind.i64.wrap (i_102 - 1))).Kind) ≥ ((gi o_.Rows i_102).Kind)))), (127, B (decide (((gi o_.Rows (IntKind.i64.wrap (i_102 - 1))).Kind) ≥ ((gi o_.Rows i_102).Kind)))), (128, B (decide (((gi o_.Rows (IntKind.i64.wrap (i_102 - 1))).Kind) ≥ ((gi o_.Rows i_102).Kind))))], [(2, (25, [I o_.States, I o_.Kinds, I o_.Init, Sl a1 o_.Rows c1])), (6, (99, [I ((gi o_.Rows i_102).State), I ((gi o_.Rows i_102).Kind), I ((gi o_.Rows i_102).Next), I ((gi o_.Rows i_102).Result)]))]⟩
            exact ⟨ρ, _, decide (((gi o_.Rows (IntKind.i64.wrap (i_102 - 1))).Kind) ≥ ((gi o_.Rows i_102).Kind)), hm, hS.sl _, hO, h103⟩
           ·replace hS := hS.lit (t := 115) kr hb
            replace hm := hm.2 hb
            refine take T [25, 27, 32, 26, 28, 33, 29, 30, 31, 34, 35, 36, 37] [2, 6] [1, 4, 94, 95, 96, 97, 98, 99, 100, 101, 102, 103, 104, 105, 106, 107, 108, 109, 110, 111, 112, 113, 114, 115, 116, 117, 118, 119, 120, 121, 122, 123, 124, 125, 126, 127, 128] hS kr kr kr hH (listed' := #[true, true, true, true, true, true, true, true, true, true, true, true, true, true, true, true, true, true, true, true, true, true, true, true, true, true, true, true, true, true, true, true, true, true, true, true, true, true]) (fuel := 0) (sy' := ⟨[(1, Pt 2 0), (4, I i_102), (94, Pt 2 3), (95, Sl a1 o_.Rows c1), (96, I i_102), (97, I (IntKind.i64.wrap (i_102 - 1))), (98, V (.pointer (some A111))), (99, V (.pointer (some A113))), (100, I ((gi o_.Rows (IntKind.i64.wrap (i_102 - 1))).State)), (101, Pt 6 0), (102, I ((gi o_.Rows i_102).State)), (103, B (decide (((gi o_.Rows (IntKind.i64.wrap (i_102 - 1))).State) > ((gi o_.Rows i_102).State)))), (104, B false), (105, Pt 2 3), (106, Sl a1 o_.Rows c1), (107, I i_102), (108, I (IntKind.i64.wrap (i_102 - 1))), (109, V (.pointer (some A116))), (110, V (.pointer (some A118))), (111, I ((gi o_.Rows (IntKind.i64.wrap (i_102 - 1))).State)), (112, Pt 6 0), (113, I ((gi o_.Rows i_102).State)), (114, B (((gi o_.Rows (IntKind.i64.wrap (i_102 - 1))).State) == ((gi o_.Rows i_102).State))), (115, B false), (116, V undef), (117, V undef), (118, V undef), (119, V undef), (120, V undef), (121, V undef), (122, V undef), (123, V undef), (124, V undef), (125, V undef), (126, B false), (127, B false), (128, B false)], [(2, (25, [I o_.States, I o_.Kinds, I o_.Init, Sl a1 o_.Rows c1])), (6, (99, [I ((gi o_.Rows i_102).State), I ((gi o_.Rows i_102).Kind), I ((gi o_.Rows i_102).Next), I ((gi o_.Rows i_102).Result)]))]⟩) (by as_aux_lemma => kernel_rfl) (by rfl) ?_
            intro a hS
            refine drawnDone kr ?_
            clear hD hH
            replace hS := hS.sl ⟨[(1, Pt 2 0), (4, I i_102), (94, Pt 2 3), (95, Sl a1 o_.Rows c1), (96, I i_102), (97, I (IntKind.i64.wrap (i_102 - 1))), (98, V (.pointer (some A111))), (99, V (.pointer (some A113))), (100, I ((gi o_.Rows (IntKind.i64.wrap (i_102 - 1))).State)), (101, Pt 6 0), (102, I ((gi o_.Rows i_102).State)), (103, B (decide (((gi o_.Rows (IntKind.i64.wrap (i_102 - 1))).State) > ((gi o_.Rows i_102).State)))), (104, B false), (105, Pt 2 3), (106, Sl a1 o_.Rows c1), (107, I i_102), (108, I (IntKind.i64.wrap (i_102 - 1))), (109, V (.pointer (some A116))), (110, V (.pointer (some A118))), (111, I ((gi o_.Rows (IntKind.i64.wrap (i_102 - 1))).State)), (112, Pt 6 0), (113, I ((gi o_.Rows i_102).State)), (114, B (((gi o_.Rows (IntKind.i64.wrap (i_102 - 1))).State) == ((gi o_.Rows i_102).State))), (115, B false), (126, B false), (127, B false), (128, B false)], [(2, (25, [I o_.States, I o_.Kinds, I o_.Init, Sl a1 o_.Rows c1])), (6, (99, [I ((gi o_.Rows i_102).State), I ((gi o_.Rows i_102).Kind), I ((gi o_.Rows i_102).Next), I ((gi o_.Rows i_102).Result)]))]⟩
            exact ⟨ρ, _, false, hm, hS.sl _, hO, h103⟩
         ·replace hS := hS.lit (t := 93) kr hb
          replace hm := hm.2 hb
          refine take T [3, 5, 10, 4, 6, 11, 7, 8, 9, 12, 13, 14, 16, 21, 15, 17, 22, 18, 19, 20, 23, 24, 25, 27, 32, 26, 28, 33, 29, 30, 31, 34, 35, 36, 37] [2, 6] [1, 4, 94, 95, 96, 97, 98, 99, 100, 101, 102, 103, 104, 105, 106, 107, 108, 109, 110, 111, 112, 113, 114, 115, 116, 117, 118, 119, 120, 121, 122, 123, 124, 125, 126, 127, 128] hS kr kr kr hH (listed' := #[true, true, true, true, true, true, true, true, true, true, true, true, true, true, true, true, true, true, true, true, true, true, true, true, true, true, true, true, true, true, true, true, true, true, true, true, true, true]) (fuel := 0) (sy' := ⟨[(1, Pt 2 0), (4, I i_102), (94, V undef), (95, V undef), (96, V undef), (97, V undef), (98, V undef), (99, V undef), (100, V undef), (101, V undef), (102, V undef), (103, V undef), (104, V undef), (105, V undef), (106, V undef), (107, V undef), (108, V undef), (109, V undef), (110, V undef), (111, V undef), (112, V undef), (113, V undef), (114, V undef), (115, V undef), (116, V undef), (117, V undef), (118, V undef), (119, V undef), (120, V undef), (121, V undef), (122, V undef), (123, V undef), (124, V undef), (125, V undef), (126, V undef), (127, V undef), (128, B false)], [(2, (25, [I o_.States, I o_.Kinds, I o_.Init, Sl a1 o_.Rows c1])), (6, (99, [I ((gi o_.Rows i_102).State), I ((gi o_.Rows i_102).Kind), I ((gi o_.Rows i_102).Next), I ((gi o_.Rows i_102).Result)]))]⟩) (by as_aux_lemma => kernel_rfl) (by rfl) ?_
          intro a hS
          refine drawnDone kr ?_
          clear hD hH
          replace hS := hS.sl ⟨[(1, Pt 2 0), (4, I i_102), (128, B false)], [(2, (25, [I o_.States, I o_.Kinds, I o_.Init, Sl a1 o_.Rows c1]))]⟩
          exact ⟨ρ, _, false, hm, hS.sl _, hO, h103⟩
        ·rintro a w127 ⟨ρ, χ126, x_107, hm, hS, hO, h108⟩
         unfold VC35_J2 at hm
         refine wcond hS (b := x_107) kr (fun hb => ?_) (fun hb => ?_)
         ·replace hm := hm.1 hb
          refine rP T hS ⟨[(2, I i_102), (3, I 32)], []⟩ fun a hS => ?_
          refine wret ?_
          exact fin T hS hO (fun c => c) rfl (r := [.int .i64 i_102, .int .i64 32]) kr (fun χ' hM hC => ⟨(i_102, 32), hm, rfl⟩)
         ·replace hm := hm.2 hb
          refine wskip ?_
          refine region (eP T hS ⟨[(1, Pt 2 0), (4, I (IntKind.i64.wrap (i_102 + 1)))], [(2, (25, [I o_.States, I o_.Kinds, I o_.Init, Sl a1 o_.Rows c1]))]⟩ fun a hS => ?_)
          exact ⟨IntKind.i64.wrap (i_102 + 1), ⟨ρ, _, hm.1, hS.sl _, hO, h108⟩, hm.2⟩
    ·replace hm := hm.2 hb
     refine wexit (by rfl) ?_
     exact ⟨ρ, _, hm, hS.sl _, hO, h103⟩
  ·rintro a w133 ⟨ρ, χ132, hm, hS, hO, h101⟩
   unfold VC35_J1 at hm
   refine rP T hS ⟨[(2, I ((o_.Rows.length : Nat) : Int)), (3, I 0)], []⟩ fun a hS => ?_
   refine wret ?_
   exact fin T hS hO (fun c => c) rfl (r := [.int .i64 ((o_.Rows.length : Nat) : Int), .int .i64 0]) kr (fun χ' hM hC => ⟨(((o_.Rows.length : Nat) : Int), 0), hm, rfl⟩)
theorem C35 (v : ∀ (o_ : Api_Object), VC35 o_ (fun r => r = ref23_Check o_)) : S35 := by
 intro w χ o_ a1 c1   h1
 refine (W35 w χ o_ a1 c1   _ (v o_) h1).mono ?_
 rintro _ _ _ _ ⟨r, rfl, h⟩
 exact h
/-- replevin/replevinref25.last -/
theorem W68 (w0 : World) (χ0 : Nat → Nat) (l_ : List Api_Event) (process : Int) (a1 : Option Addr) (c1 : Nat) (Q : Int → Prop) (hm : VC68 l_ process Q) (h1 : RS tApi_Event w0 χ0 a1 l_ c1) :
  Ret Tryd.prog 68 #[.slice a1 l_.length c1, .int .i64 process] xnone w0 χ0 (fun w χ' v => ∃ r, Q r ∧ v = .int .i64 r) := by
 unfold VC68 at hm
 replace hm := hm (h1.sm kr)
 refine enter Tryd.func68 rfl (vals := [.slice a1 l_.length c1, .int .i64 process]) kr ?_
 intro ρ a hS hO hM
 replace h1 := h1.m0 hM
 clear hM
 refine rP T hS ⟨[(0, Sl a1 l_ c1), (1, I process)], []⟩ fun a hS => ?_
 refine rP T hS ⟨[(0, Sl a1 l_ c1), (1, I process), (5, I (-1))], []⟩ fun a hS => ?_
 refine wcut (fun a w => ∃ (ρ : Nat → Nat) (χ : Nat → Nat) (at_101 : Int), VC68_J1 Q at_101 ∧ St Tryd.f68.ntmps ⟨[(5, I at_101)], []⟩ ρ a w χ ∧ Old w0 χ0 w χ) ?_ ?_
 ·refine rP T hS ⟨[(0, Sl a1 l_ c1), (1, I process), (5, I (-1)), (6, I 0)], []⟩ fun a hS => ?_
  refine wblock ?_
  obtain ⟨I1, μ1, hm0, hm⟩ := hm
  refine wloop (σ := Int × Int) (fun s a w => ∃ (ρ : Nat → Nat) (χ : Nat → Nat), I1 s.1 s.2 ∧ St Tryd.f68.ntmps ⟨[(0, Sl a1 l_ c1), (1, I process), (5, I s.1), (6, I s.2)], []⟩ ρ a w χ ∧ Old w0 χ0 w χ ∧ RS tApi_Event w χ a1 l_ c1) (fun s => μ1 s.1 s.2) (⟨(-1), 0⟩) ?_ ?_
  ·exact ⟨ρ, _, hm0, hS.sl _, hO, h1⟩
  ·rintro ⟨at_103, i_104⟩ a w115 ⟨ρ, χ114, hI, hS, hO, h102⟩
   replace hm := hm at_103 i_104 hI
   clear hI hm0
   refine wseq ?_
   refine rP T hS ⟨[(0, Sl a1 l_ c1), (1, I process), (5, I at_103), (6, I i_104), (10, B (decide (i_104 < ((l_.length : Nat) : Int))))], []⟩ fun a hS => ?_
   refine wcond hS (b := decide (i_104 < ((l_.length : Nat) : Int))) kr (fun hb => ?_) (fun hb => ?_)
   ·replace hm := hm.1 hb
    refine wskip ?_
    refine wcut (fun a w => ∃ (ρ : Nat → Nat) (χ : Nat → Nat) (at_106 : Int), VC68_J2 I1 μ1 at_103 i_104 at_106 ∧ St Tryd.f68.ntmps ⟨[(0, Sl a1 l_ c1), (1, I process), (5, I at_106), (6, I i_104)], []⟩ ρ a w χ ∧ Old w0 χ0 w χ ∧ RS tApi_Event w χ a1 l_ c1) ?_ ?_
    ·refine wblock ?_
     refine regO ?_
     refine oP T hS 2 ⟨[(0, Sl a1 l_ c1), (1, I process), (5, I at_103), (6, I i_104), (13, Sl a1 l_ c1), (14, I i_104)], []⟩ fun a hS => ?_
     obtain ⟨hq, hm⟩ := hm
     refine op1 (index (e := 51) (k := .i64) T hS kr kr kr kr h102 kr kr hq.1 hq.2 ?_)
     intro A107 a h108 hS
     clear hq
     refine op1 (fieldA (off := 1) (fsz := 1) (ft := 3) (TF := tI) (y := (gi l_ i_104).Prc) T hS kr kr kr h108 kr kr kr (fun cs h => Api_Event_f1 h) ?_)
     intro A109 a h110 hS
     refine op1 (load1 T hS kr kr kr h110 rfl kr ?_)
     intro v111 a hv hS
     cases hv
     refine eP T hS ⟨[(0, Sl a1 l_ c1), (1, I process), (5, I at_103), (6, I i_104), (19, B (((gi l_ i_104).Prc) == process))], []⟩ fun a hS => ?_
     refine wcond hS (b := (((gi l_ i_104).Prc) == process)) kr (fun hb => ?_) (fun hb => ?_)
     ·replace hm := hm.1 hb
      refine region (eP T hS ⟨[(0, Sl a1 l_ c1), (1, I process), (5, I i_104), (6, I i_104)], []⟩ fun a hS => ?_)
      exact ⟨ρ, _, i_104, hm, hS.sl _, hO, h102⟩
     ·replace hm := hm.2 hb
      refine wskip ?_
      exact ⟨ρ, _, at_103, hm, hS.sl _, hO, h102⟩
    ·rintro a w113 ⟨ρ, χ112, at_106, hm, hS, hO, h105⟩
     unfold VC68_J2 at hm
     refine region (eP T hS ⟨[(0, Sl a1 l_ c1), (1, I process), (5, I at_106), (6, I (IntKind.i64.wrap (i_104 + 1)))], []⟩ fun a hS => ?_)
     exact ⟨⟨at_106, IntKind.i64.wrap (i_104 + 1)⟩, ⟨ρ, _, hm.1, hS.sl _, hO, h105⟩, hm.2⟩
   ·replace hm := hm.2 hb
    refine wexit (by rfl) ?_
    exact ⟨ρ, _, at_103, hm, hS.sl _, hO⟩
 ·rintro a w117 ⟨ρ, χ116, at_101, hm, hS, hO⟩
  unfold VC68_J1 at hm
  refine rP T hS ⟨[(4, I at_101)], []⟩ fun a hS => ?_
  refine wret ?_
  exact fin T hS hO (fun c => c) rfl (r := [.int .i64 at_101]) kr (fun χ' hM hC => ⟨at_101, hm, rfl⟩)
theorem C68 (v : ∀ (l_ : List Api_Event) (process : Int), VC68 l_ process (fun r => r = ref25_last l_ process)) : S68 := by
 intro w χ l_ process a1 c1   h1
 refine (W68 w χ l_ process a1 c1   _ (v l_ process) h1).mono ?_
 rintro _ _ _ _ ⟨r, rfl, h⟩
 exact h
end Go.Proofs.YtcjldfbgccmpkaaDoor
