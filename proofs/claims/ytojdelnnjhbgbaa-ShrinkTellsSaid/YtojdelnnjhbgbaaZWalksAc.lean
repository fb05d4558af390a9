/- Walks: each function returns what its condition asks. Condition: the contracts of its callees, handed in. -/
import Derived.Test.YtojdelnnjhbgbaaZWalksS
set_option linter.all false
namespace Go.Proofs.Ytojdelnnjhbgbaa
open Go Go.Sv
abbrev zAc0 (col3 col2 col1 : Nat) : Nat -> Nat := fun c => (bif Nat.beq c 13 then col3 else (bif Nat.beq c 1011 then col2 else (bif Nat.beq c 1010 then col1 else c)))
abbrev zAc1 (i1 i2 i3 i4 m3 m4 : Nat) : List (Nat × Nat) := [(i1, 901), (i2, 902), (i3, 903), (i4, 904), (m3, 2003), (m4, 2004)]
abbrev zAc2 (i1 m4 m5 : Nat) : List (Nat × Nat) := [(i1, 901), (m4, 2004), (m5, 2005)]
set_option maxHeartbeats 1000000
theorem W65 (w0) (X0) (state : Int) (cap1 : Search_seeker) (a1) (c1) (a2) (c2) (a3) (c3) (r4) (m4) (b1) (i1) (Q : Search_spot -> Prop) (hm : VC65 state cap1 Q) (h1 : RS tApi_Row w0 X0 a1 cap1.o.Rows c1) (h2 : RS tApi_Oper w0 X0 a2 cap1.l c2) (h3 : RS tBool w0 X0 a3 cap1.done c3) (h4 : OMS kvSearch_spot tI false w0 X0 m4 r4 cap1.failed) (hc1 : Cell w0 X0 b1 i1 118 [.int .i64 cap1.o.States, .int .i64 cap1.o.Kinds, .int .i64 cap1.o.Init, .slice a1 cap1.o.Rows.length c1, .slice a2 cap1.l.length c2, .slice a3 cap1.done.length c3, .map (some r4)]) (hA : Apart [i1, m4]) :
  Ret Try.prog 65 #[.pointer (some ⟨b1, 0, none⟩), .int .i64 state] (pR [i1, m4]) w0 X0 (fun w X' v => ∃ r, Q r /\ v = .agg #[.int .u32 r.done, .int .i64 r.state] /\ Cell w X' b1 i1 118 [.int .i64 cap1.o.States, .int .i64 cap1.o.Kinds, .int .i64 cap1.o.Init, .slice a1 cap1.o.Rows.length c1, .slice a2 cap1.l.length c2, .slice a3 cap1.done.length c3, .map (some r4)] /\ OMS kvSearch_spot tI false w X' m4 r4 cap1.failed) := by
 unfold VC65 at hm
 replace hm := hm (h1.sm kr)
 replace hm := hm (h2.sm kr)
 replace hm := hm (h3.sm kr)
 refine enterR Try.func65 rfl (f0of [(i1, 901), (m4, 2004)]) (fun id => (bif Nat.beq id 901 then b1 else 0)) (args := [Pt 901 0, I state]) (bxs := [(901, (118, [I cap1.o.States, I cap1.o.Kinds, I cap1.o.Init, Sl a1 cap1.o.Rows c1, Sl a2 cap1.l c2, Sl a3 cap1.done c3, V (.map (some r4))]))]) kr rfl (BoxesOK.cons kr (hc1.map (f0of_at 0 hA.1 rfl)) BoxesOK.nil) (f0of_0 (fun q hq => (hA.2 q.1 (List.mem_map.2 ⟨q, hq, rfl⟩)).1)) ?_
 intro a hS hO hM
 have hP : Pin [(901, b1)] (fun id => (bif Nat.beq id 901 then b1 else 0)) := by intro q hq; simp at hq; rcases hq with rfl <;> rfl
 generalize (fun id => (bif Nat.beq id 901 then b1 else 0)) = Z at hS hP
 clear hc1
 replace h1 := h1.m0 hM
 replace h2 := h2.m0 hM
 replace h3 := h3.m0 hM
 replace h4 := h4.map (f := f0of [(i1, 901), (m4, 2004)]) (f0of_at 1 hA.1 rfl) hM
 refine rM T hS ⟨[(0, Pt 901 0), (1, I state), (4, Pt 5 0)], [(5, (121, [V (.int .u32 0), I 0])), (901, (118, [I cap1.o.States, I cap1.o.Kinds, I cap1.o.Init, Sl a1 cap1.o.Rows c1, Sl a2 cap1.l c2, Sl a3 cap1.done c3, V (.map (some r4))]))]⟩ fun Z a w138 X139 hS hE hr => ?_
 replace hO := hO.m2 hE
 replace h1 := h1.m1 hE
 replace h2 := h2.m1 hE
 replace h3 := h3.m1 hE
 replace h4 := h4.m2 hE
 replace hP := hP.mv hr kr
 clear hE hr
 refine rM T hS ⟨[(0, Pt 901 0), (4, Pt 5 0), (5, Pt 6 0)], [(5, (121, [V (.int .u32 0), I 0])), (6, (121, [V (.int .u32 0), I state])), (901, (118, [I cap1.o.States, I cap1.o.Kinds, I cap1.o.Init, Sl a1 cap1.o.Rows c1, Sl a2 cap1.l c2, Sl a3 cap1.done c3, V (.map (some r4))]))]⟩ fun Z a w136 X137 hS hE hr => ?_
 replace hO := hO.m2 hE
 replace h1 := h1.m1 hE
 replace h2 := h2.m1 hE
 replace h3 := h3.m1 hE
 replace h4 := h4.m2 hE
 replace hP := hP.mv hr kr
 clear hE hr
 refine wcut (fun a w => ∃ (Z : Nat -> Nat) (X : Nat -> Nat) (y101 : Int) (y102 : Int), VC65_J1 Q y101 y102 /\ St Try.f65.ntmps ⟨[(4, Pt 5 0), (5, Pt 6 0)], [(5, (121, [V (.int .u32 0), I 0])), (6, (121, [V (.int .u32 y101), I y102])), (901, (118, [I cap1.o.States, I cap1.o.Kinds, I cap1.o.Init, Sl a1 cap1.o.Rows c1, Sl a2 cap1.l c2, Sl a3 cap1.done c3, V (.map (some r4))]))]⟩ Z a w X /\ OldR (f0of [(i1, 901), (m4, 2004)]) w0 X0 w X /\ Pin [(901, b1)] Z /\ RS tApi_Row w X a1 cap1.o.Rows c1 /\ RS tApi_Oper w X a2 cap1.l c2 /\ RS tBool w X a3 cap1.done c3 /\ OMS kvSearch_spot tI false w X 2004 r4 cap1.failed) ?_ ?_
 ·refine rPb T hS [(4, Pt 5 0), (5, Pt 6 0), (13, Sl a3 cap1.done c3), (14, I (lN cap1.done)), (15, I 0)] fun a hS => ?_
  refine wblock ?_
  obtain ⟨I1, μ1, hm0, hm⟩ := hm
  refine wloop (σ := Int × Int × Int) (fun s a w => ∃ Z X, I1 s.1 s.2.1 s.2.2 /\ St Try.f65.ntmps ⟨[(4, Pt 5 0), (5, Pt 6 0), (13, Sl a3 cap1.done c3), (14, I (lN cap1.done)), (15, I s.1)], [(5, (121, [V (.int .u32 0), I 0])), (6, (121, [V (.int .u32 s.2.1), I s.2.2])), (901, (118, [I cap1.o.States, I cap1.o.Kinds, I cap1.o.Init, Sl a1 cap1.o.Rows c1, Sl a2 cap1.l c2, Sl a3 cap1.done c3, V (.map (some r4))]))]⟩ Z a w X /\ OldR (f0of [(i1, 901), (m4, 2004)]) w0 X0 w X /\ Pin [(901, b1)] Z /\ RS tBool w X a3 cap1.done c3 /\ RS tApi_Row w X a1 cap1.o.Rows c1 /\ RS tApi_Oper w X a2 cap1.l c2 /\ RS tBool w X a3 cap1.done c3 /\ OMS kvSearch_spot tI false w X 2004 r4 cap1.failed) (fun s => μ1 s.1 s.2.1 s.2.2) (⟨0, 0, state⟩) ?_ ?_
  ·exact ⟨Z, _, hm0, hS.sl _, hO, hP, h3, h1, h2, h3, h4⟩
  rintro ⟨y110, y111, y112⟩ a w133 ⟨Z, X132, hI, hS, hO, hP, h109, h113, h114, h115, h116⟩
  replace hm := hm y110 y111 y112 hI
  clear hI hm0
  refine rPb T hS [(4, Pt 5 0), (5, Pt 6 0), (13, Sl a3 cap1.done c3), (14, I (lN cap1.done)), (15, I y110), (16, B (decide (y110 < (lN cap1.done))))] fun a hS => ?_
  refine wseq ?_
  refine wcond hS (b := decide (y110 < (lN cap1.done))) kr (fun hb => ?_) fun hb => ?_
  ·replace hm := hm.1 hb
   refine wskip ?_
   refine wcut (fun a w => ∃ (Z : Nat -> Nat) (X : Nat -> Nat) (y118 : Int), VC65_J2 I1 μ1 y110 y111 y112 y118 /\ St Try.f65.ntmps ⟨[(4, Pt 5 0), (5, Pt 6 0), (13, Sl a3 cap1.done c3), (14, I (lN cap1.done)), (15, I y110)], [(5, (121, [V (.int .u32 0), I 0])), (6, (121, [V (.int .u32 y118), I y112])), (901, (118, [I cap1.o.States, I cap1.o.Kinds, I cap1.o.Init, Sl a1 cap1.o.Rows c1, Sl a2 cap1.l c2, Sl a3 cap1.done c3, V (.map (some r4))]))]⟩ Z a w X /\ OldR (f0of [(i1, 901), (m4, 2004)]) w0 X0 w X /\ Pin [(901, b1)] Z /\ RS tBool w X a3 cap1.done c3 /\ RS tApi_Row w X a1 cap1.o.Rows c1 /\ RS tApi_Oper w X a2 cap1.l c2 /\ RS tBool w X a3 cap1.done c3 /\ OMS kvSearch_spot tI false w X 2004 r4 cap1.failed) ?_ ?_
   ·refine wblock ?_
    refine regO ?_
    refine oPb T hS 1 [(4, Pt 5 0), (5, Pt 6 0), (13, Sl a3 cap1.done c3), (14, I (lN cap1.done)), (15, I y110), (17, I y110)] fun a hS => ?_
    obtain ⟨hq, hm⟩ := hm
    refine op1 (index (e := 4) (k := .i64) T hS kr kr kr kr h109 kr kr hq.1 hq.2 ?_)
    intro A123 a h124 hS
    refine op1 (load1 T hS kr kr kr h124 rfl kr ?_)
    intro v125 a hv hS
    cases hv
    refine ePb T hS [(4, Pt 5 0), (5, Pt 6 0), (6, I y110), (7, B (gi cap1.done y110)), (13, Sl a3 cap1.done c3), (14, I (lN cap1.done)), (15, I y110)] fun a hS => ?_
    refine rPb T hS [(4, Pt 5 0), (5, Pt 6 0), (6, I y110), (13, Sl a3 cap1.done c3), (14, I (lN cap1.done)), (15, I y110), (20, B (gi cap1.done y110))] fun a hS => ?_
    refine wcond hS (b := gi cap1.done y110) kr (fun hb => ?_) fun hb => ?_
    ·replace hm := hm.1 hb
     refine drawnX [5, 901] mixed hS ?_
     intro w126 X127 hS hE hD hH
     replace hO := hO.m2 hE
     replace h109 := h109.m1 hE
     replace h113 := h113.m1 hE
     replace h114 := h114.m1 hE
     replace h115 := h115.m1 hE
     replace h116 := h116.m2 hE
     refine tkb T [0, 2] [5, 901] hS hH #[true, false, true, false, false, false, false] 5 [(4, Pt 5 0), (5, Pt 6 0), (13, Sl a3 cap1.done c3), (14, I (lN cap1.done)), (15, I y110), (21, Pt 6 0), (23, I y110)] fun a hS => ?_
     obtain ⟨hq, hm⟩ := hm
     refine dshlV (k := .u32) (k2 := .i64) (p := 1) (q := y110) 3 hS kr kr kr (by rfl) kr hH kr kr hq ?_
     intro a hS
     refine only 1 kr (by rfl) (plain1 T hS kr kr kr (sv := V (.int .u32 y111)) kr ?_)
     intro a hS
     refine andH (Hold.of hS (bks := [5, 901]) kr hD) ?_
     intro hH
     refine tkb T [4, 5] [5, 901] hS hH #[true, true, true, true, true, true, false] 1 [(4, Pt 5 0), (5, Pt 6 0), (13, Sl a3 cap1.done c3), (14, I (lN cap1.done)), (15, I y110), (25, V (.int .u32 (IntKind.u32.wrap ((BitVec.ofInt IntKind.u32.bits y111 ||| BitVec.ofInt IntKind.u32.bits (IntKind.u32.wrap (1 * 2 ^ (min y110.toNat IntKind.u32.bits)))).toNat : Int)))), (26, Pt 6 0)] fun a hS => ?_
     replace hS := hS.sl ⟨[(4, Pt 5 0), (5, Pt 6 0), (13, Sl a3 cap1.done c3), (14, I (lN cap1.done)), (15, I y110), (25, V (.int .u32 (IntKind.u32.wrap ((BitVec.ofInt IntKind.u32.bits y111 ||| BitVec.ofInt IntKind.u32.bits (IntKind.u32.wrap (1 * 2 ^ (min y110.toNat IntKind.u32.bits)))).toNat : Int)))), (26, Pt 6 0)], [(5, (121, [V (.int .u32 0), I 0])), (6, (121, [V (.int .u32 y111), I y112])), (901, (118, [I cap1.o.States, I cap1.o.Kinds, I cap1.o.Init, Sl a1 cap1.o.Rows c1, Sl a2 cap1.l c2, Sl a3 cap1.done c3, V (.map (some r4))]))]⟩
     refine only 6 kr (by rfl) (store1 T hS kr kr (sy' := ⟨[(4, Pt 5 0), (5, Pt 6 0), (13, Sl a3 cap1.done c3), (14, I (lN cap1.done)), (15, I y110), (25, V (.int .u32 (IntKind.u32.wrap ((BitVec.ofInt IntKind.u32.bits y111 ||| BitVec.ofInt IntKind.u32.bits (IntKind.u32.wrap (1 * 2 ^ (min y110.toNat IntKind.u32.bits)))).toNat : Int)))), (26, Pt 6 0)], [(6, (121, [V (.int .u32 (IntKind.u32.wrap ((BitVec.ofInt IntKind.u32.bits y111 ||| BitVec.ofInt IntKind.u32.bits (IntKind.u32.wrap (1 * 2 ^ (min y110.toNat IntKind.u32.bits)))).toNat : Int))), I y112])), (5, (121, [V (.int .u32 0), I 0])), (6, (121, [V (.int .u32 y111), I y112])), (901, (118, [I cap1.o.States, I cap1.o.Kinds, I cap1.o.Init, Sl a1 cap1.o.Rows c1, Sl a2 cap1.l c2, Sl a3 cap1.done c3, V (.map (some r4))]))]⟩) kr ?_)
     intro a w128 X129 hS hE
     replace hO := hO.m2 hE
     replace hD := hD.ev hE rfl
     replace h109 := h109.m1 hE
     replace h113 := h113.m1 hE
     replace h114 := h114.m1 hE
     replace h115 := h115.m1 hE
     replace h116 := h116.m2 hE
     replace hS := hS.sl ⟨[(4, Pt 5 0), (5, Pt 6 0), (13, Sl a3 cap1.done c3), (14, I (lN cap1.done)), (15, I y110), (25, V (.int .u32 (IntKind.u32.wrap ((BitVec.ofInt IntKind.u32.bits y111 ||| BitVec.ofInt IntKind.u32.bits (IntKind.u32.wrap (1 * 2 ^ (min y110.toNat IntKind.u32.bits)))).toNat : Int)))), (26, Pt 6 0)], [(5, (121, [V (.int .u32 0), I 0])), (6, (121, [V (.int .u32 (IntKind.u32.wrap ((BitVec.ofInt IntKind.u32.bits y111 ||| BitVec.ofInt IntKind.u32.bits (IntKind.u32.wrap (1 * 2 ^ (min y110.toNat IntKind.u32.bits)))).toNat : Int))), I y112])), (901, (118, [I cap1.o.States, I cap1.o.Kinds, I cap1.o.Init, Sl a1 cap1.o.Rows c1, Sl a2 cap1.l c2, Sl a3 cap1.done c3, V (.map (some r4))]))]⟩
     refine andH (Hold.of hS (bks := [5, 901]) kr hD) ?_
     intro hH
     refine drawnDone kr ?_
     replace hS := hS.slb [(4, Pt 5 0), (5, Pt 6 0), (13, Sl a3 cap1.done c3), (14, I (lN cap1.done)), (15, I y110)]
     exact ⟨Z, _, IntKind.u32.wrap ((BitVec.ofInt IntKind.u32.bits y111 ||| BitVec.ofInt IntKind.u32.bits (IntKind.u32.wrap (1 * 2 ^ (min y110.toNat IntKind.u32.bits)))).toNat : Int), hm, hS.sl _, hO, hP, h109, h113, h114, h115, h116⟩
    replace hm := hm.2 hb
    refine wskip ?_
    exact ⟨Z, _, y111, hm, hS.sl _, hO, hP, h109, h113, h114, h115, h116⟩
   rintro a w131 ⟨Z, X130, y118, hm, hS, hO, hP, h117, h119, h120, h121, h122⟩
   unfold VC65_J2 at hm
   refine region (ePb T hS [(4, Pt 5 0), (5, Pt 6 0), (13, Sl a3 cap1.done c3), (14, I (lN cap1.done)), (15, I (wR (y110 + 1)))] fun a hS => ?_)
   exact ⟨⟨wR (y110 + 1), y118, y112⟩, ⟨Z, _, hm.1, hS.sl _, hO, hP, h117, h119, h120, h121, h122⟩, hm.2⟩
  replace hm := hm.2 hb
  refine wexit (by rfl) ?_
  exact ⟨Z, _, y111, y112, hm, hS.sl _, hO, hP, h113, h114, h115, h116⟩
 rintro a w135 ⟨Z, X134, y101, y102, hm, hS, hO, hP, h103, h104, h105, h106⟩
 unfold VC65_J1 at hm
 refine rM T hS ⟨[(4, Pt 5 0)], [(5, (121, [V (.int .u32 y101), I y102])), (901, (118, [I cap1.o.States, I cap1.o.Kinds, I cap1.o.Init, Sl a1 cap1.o.Rows c1, Sl a2 cap1.l c2, Sl a3 cap1.done c3, V (.map (some r4))]))]⟩ fun Z a w107 X108 hS hE hr => ?_
 replace hO := hO.m2 hE
 replace h103 := h103.m1 hE
 replace h104 := h104.m1 hE
 replace h105 := h105.m1 hE
 replace h106 := h106.m2 hE
 replace hP := hP.mv hr kr
 clear hE hr
 refine wret ?_
 exact finR T hS hO (fun c h => f0of_zero kr h) (fun c h => f0of_else (l := [(i1, 901), (m4, 2004)]) h) (f1of [(i1, 901), (m4, 2004)]) rfl (r := [.agg #[.int .u32 y101, .int .i64 y102]]) kr (fun X' hM hC => ⟨(⟨y101, y102⟩ : Search_spot), hm, rfl, ((hS.cell (id := 901) (t := 118) (cs := [I cap1.o.States, I cap1.o.Kinds, I cap1.o.Init, Sl a1 cap1.o.Rows c1, Sl a2 cap1.l c2, Sl a3 cap1.done c3, V (.map (some r4))]) kr).out (f := (f1of [(i1, 901), (m4, 2004)])) hC kr kr (hP.at 0 rfl)), (h106.out (f := (f1of [(i1, 901), (m4, 2004)])) hM hC kr kr)⟩)
theorem C65 (v : ∀ (state : Int) (cap1 : Search_seeker), VC65 state cap1 (fun r => r = search_seeker_here state cap1)) : S65 := by
 intro w X state cap1 a1 c1 a2 c2 a3 c3 r4 m4  b1 i1 h1 h2 h3 h4 hc1 hA
 refine (W65 w X state cap1 a1 c1 a2 c2 a3 c3 r4 m4  b1 i1 _ (v state cap1) h1 h2 h3 h4 hc1 hA).mono ?_
 rintro _ _ _ _ ⟨r, rfl, h⟩
 exact h
theorem W64 (w0) (X0) (cap1 : Search_seeker) (a1) (c1) (a2) (c2) (a3) (c3) (r4) (m4) (b1) (i1) (Q : Bool -> Prop) (hm : VC64 cap1 Q) (h1 : RS tApi_Row w0 X0 a1 cap1.o.Rows c1) (h2 : RS tApi_Oper w0 X0 a2 cap1.l c2) (h3 : RS tBool w0 X0 a3 cap1.done c3) (h4 : OMS kvSearch_spot tI false w0 X0 m4 r4 cap1.failed) (hc1 : Cell w0 X0 b1 i1 118 [.int .i64 cap1.o.States, .int .i64 cap1.o.Kinds, .int .i64 cap1.o.Init, .slice a1 cap1.o.Rows.length c1, .slice a2 cap1.l.length c2, .slice a3 cap1.done.length c3, .map (some r4)]) (hA : Apart [i1, m4]) :
  Ret Try.prog 64 #[.pointer (some ⟨b1, 0, none⟩)] (pR [i1, m4]) w0 X0 (fun w X' v => ∃ r, Q r /\ v = .bool r /\ Cell w X' b1 i1 118 [.int .i64 cap1.o.States, .int .i64 cap1.o.Kinds, .int .i64 cap1.o.Init, .slice a1 cap1.o.Rows.length c1, .slice a2 cap1.l.length c2, .slice a3 cap1.done.length c3, .map (some r4)] /\ OMS kvSearch_spot tI false w X' m4 r4 cap1.failed) := by
 unfold VC64 at hm
 replace hm := hm (h1.sm kr)
 replace hm := hm (h2.sm kr)
 replace hm := hm (h3.sm kr)
 refine enterR Try.func64 rfl (f0of [(i1, 901), (m4, 2004)]) (fun id => (bif Nat.beq id 901 then b1 else 0)) (args := [Pt 901 0]) (bxs := [(901, (118, [I cap1.o.States, I cap1.o.Kinds, I cap1.o.Init, Sl a1 cap1.o.Rows c1, Sl a2 cap1.l c2, Sl a3 cap1.done c3, V (.map (some r4))]))]) kr rfl (BoxesOK.cons kr (hc1.map (f0of_at 0 hA.1 rfl)) BoxesOK.nil) (f0of_0 (fun q hq => (hA.2 q.1 (List.mem_map.2 ⟨q, hq, rfl⟩)).1)) ?_
 intro a hS hO hM
 have hP : Pin [(901, b1)] (fun id => (bif Nat.beq id 901 then b1 else 0)) := by intro q hq; simp at hq; rcases hq with rfl <;> rfl
 generalize (fun id => (bif Nat.beq id 901 then b1 else 0)) = Z at hS hP
 clear hc1
 replace h1 := h1.m0 hM
 replace h2 := h2.m0 hM
 replace h3 := h3.m0 hM
 replace h4 := h4.map (f := f0of [(i1, 901), (m4, 2004)]) (f0of_at 1 hA.1 rfl) hM
 refine rPb T hS [(0, Pt 901 0)] fun a hS => ?_
 refine wcut (fun a w => ∃ Z X, VC64_J1 Q /\ St Try.f64.ntmps ⟨[], [(901, (118, [I cap1.o.States, I cap1.o.Kinds, I cap1.o.Init, Sl a1 cap1.o.Rows c1, Sl a2 cap1.l c2, Sl a3 cap1.done c3, V (.map (some r4))]))]⟩ Z a w X /\ OldR (f0of [(i1, 901), (m4, 2004)]) w0 X0 w X /\ Pin [(901, b1)] Z /\ RS tApi_Row w X a1 cap1.o.Rows c1 /\ RS tApi_Oper w X a2 cap1.l c2 /\ RS tBool w X a3 cap1.done c3 /\ OMS kvSearch_spot tI false w X 2004 r4 cap1.failed) ?_ ?_
 ·refine rPb T hS [(0, Pt 901 0), (8, Sl a2 cap1.l c2), (9, I (lN cap1.l)), (10, I 0)] fun a hS => ?_
  refine wblock ?_
  obtain ⟨I1, μ1, hm0, hm⟩ := hm
  refine wloop (σ := Int) (fun s a w => ∃ Z X, I1 s /\ St Try.f64.ntmps ⟨[(0, Pt 901 0), (8, Sl a2 cap1.l c2), (9, I (lN cap1.l)), (10, I s)], [(901, (118, [I cap1.o.States, I cap1.o.Kinds, I cap1.o.Init, Sl a1 cap1.o.Rows c1, Sl a2 cap1.l c2, Sl a3 cap1.done c3, V (.map (some r4))]))]⟩ Z a w X /\ OldR (f0of [(i1, 901), (m4, 2004)]) w0 X0 w X /\ Pin [(901, b1)] Z /\ RS tApi_Oper w X a2 cap1.l c2 /\ RS tApi_Row w X a1 cap1.o.Rows c1 /\ RS tApi_Oper w X a2 cap1.l c2 /\ RS tBool w X a3 cap1.done c3 /\ OMS kvSearch_spot tI false w X 2004 r4 cap1.failed) (fun s => μ1 s) (0) ?_ ?_
  ·exact ⟨Z, _, hm0, hS.sl _, hO, hP, h2, h1, h2, h3, h4⟩
  rintro y106 a w128 ⟨Z, X127, hI, hS, hO, hP, h105, h107, h108, h109, h110⟩
  replace hm := hm y106 hI
  clear hI hm0
  refine rPb T hS [(0, Pt 901 0), (8, Sl a2 cap1.l c2), (9, I (lN cap1.l)), (10, I y106), (11, B (decide (y106 < (lN cap1.l))))] fun a hS => ?_
  refine wseq ?_
  refine wcond hS (b := decide (y106 < (lN cap1.l))) kr (fun hb => ?_) fun hb => ?_
  ·replace hm := hm.1 hb
   refine wskip (wseq ?_)
   refine wblock ?_
   refine regO ?_
   refine oPb T hS 1 [(0, Pt 901 0), (8, Sl a2 cap1.l c2), (9, I (lN cap1.l)), (10, I y106), (12, I y106)] fun a hS => ?_
   obtain ⟨hq, hm⟩ := hm
   refine op1 (index (e := 61) (k := .i64) T hS kr kr kr kr h105 kr kr hq.1 hq.2 ?_)
   intro A111 a h112 hS
   refine op1 (loadA T hS kr kr kr h112 kr kr ?_)
   intro v113 a hv hS
   subst hv
   refine eM T hS ⟨[(0, Pt 901 0), (3, I y106), (4, Pt 5 0), (8, Sl a2 cap1.l c2), (9, I (lN cap1.l)), (10, I y106)], [(5, (61, (cP (gi cap1.l y106)))), (901, (118, [I cap1.o.States, I cap1.o.Kinds, I cap1.o.Init, Sl a1 cap1.o.Rows c1, Sl a2 cap1.l c2, Sl a3 cap1.done c3, V (.map (some r4))]))]⟩ fun Z a w125 X126 hS hE hr => ?_
   replace hO := hO.m2 hE
   replace h105 := h105.m1 hE
   replace h107 := h107.m1 hE
   replace h108 := h108.m1 hE
   replace h109 := h109.m1 hE
   replace h110 := h110.m2 hE
   replace hP := hP.mv hr kr
   clear hE hr
   refine wcut (fun a w => ∃ (Z : Nat -> Nat) (X : Nat -> Nat) (y115 : Bool), VC64_J2 Q I1 μ1 y106 y115 /\ St Try.f64.ntmps ⟨[(0, Pt 901 0), (8, Sl a2 cap1.l c2), (9, I (lN cap1.l)), (10, I y106), (27, B y115)], [(901, (118, [I cap1.o.States, I cap1.o.Kinds, I cap1.o.Init, Sl a1 cap1.o.Rows c1, Sl a2 cap1.l c2, Sl a3 cap1.done c3, V (.map (some r4))]))]⟩ Z a w X /\ OldR (f0of [(i1, 901), (m4, 2004)]) w0 X0 w X /\ Pin [(901, b1)] Z /\ RS tApi_Oper w X a2 cap1.l c2 /\ RS tApi_Row w X a1 cap1.o.Rows c1 /\ RS tApi_Oper w X a2 cap1.l c2 /\ RS tBool w X a3 cap1.done c3 /\ OMS kvSearch_spot tI false w X 2004 r4 cap1.failed) ?_ ?_
   ·refine region ?_
    refine oP T hS 4 ⟨[(0, Pt 901 0), (3, I y106), (8, Sl a2 cap1.l c2), (9, I (lN cap1.l)), (10, I y106), (18, B (((gi cap1.l y106).End) != (-1)))], [(901, (118, [I cap1.o.States, I cap1.o.Kinds, I cap1.o.Init, Sl a1 cap1.o.Rows c1, Sl a2 cap1.l c2, Sl a3 cap1.done c3, V (.map (some r4))]))]⟩ fun a hS => ?_
    rcases bft (((gi cap1.l y106).End) != (-1)) with hb | hb
    ·replace hS := hS.lit (t := 18) kr hb
     replace hm := hm.1 hb
     refine oPb T hS 5 [(0, Pt 901 0), (8, Sl a2 cap1.l c2), (9, I (lN cap1.l)), (10, I y106), (18, B true), (22, Sl a3 cap1.done c3), (23, I y106)] fun a hS => ?_
     obtain ⟨hq, hm⟩ := hm
     refine op1 (index (e := 4) (k := .i64) T hS kr kr kr kr h109 kr kr hq.1 hq.2 ?_)
     intro A120 a h121 hS
     refine op1 (load1 T hS kr kr kr h121 rfl kr ?_)
     intro v122 a hv hS
     cases hv
     refine ePb T hS [(0, Pt 901 0), (8, Sl a2 cap1.l c2), (9, I (lN cap1.l)), (10, I y106), (27, B (!(gi cap1.done y106)))] fun a hS => ?_
     exact ⟨Z, _, (!(gi cap1.done y106)), hm, hS.sl _, hO, hP, h105, h107, h108, h109, h110⟩
    replace hS := hS.lit (t := 18) kr hb
    replace hm := hm.2 hb
    refine ePb T hS [(0, Pt 901 0), (8, Sl a2 cap1.l c2), (9, I (lN cap1.l)), (10, I y106), (27, B false)] fun a hS => ?_
    exact ⟨Z, _, false, hm, hS.sl _, hO, hP, h105, h107, h108, h109, h110⟩
   rintro a w124 ⟨Z, X123, y115, hm, hS, hO, hP, h114, h116, h117, h118, h119⟩
   unfold VC64_J2 at hm
   refine wcond hS (b := y115) kr (fun hb => ?_) fun hb => ?_
   ·replace hm := hm.1 hb
    refine rPb T hS [(2, B false)] fun a hS => ?_
    refine wret ?_
    exact finR T hS hO (fun c h => f0of_zero kr h) (fun c h => f0of_else (l := [(i1, 901), (m4, 2004)]) h) (f1of [(i1, 901), (m4, 2004)]) rfl (r := [.bool false]) kr (fun X' hM hC => ⟨false, hm, rfl, ((hS.cell (id := 901) (t := 118) (cs := [I cap1.o.States, I cap1.o.Kinds, I cap1.o.Init, Sl a1 cap1.o.Rows c1, Sl a2 cap1.l c2, Sl a3 cap1.done c3, V (.map (some r4))]) kr).out (f := (f1of [(i1, 901), (m4, 2004)])) hC kr kr (hP.at 0 rfl)), (h119.out (f := (f1of [(i1, 901), (m4, 2004)])) hM hC kr kr)⟩)
   replace hm := hm.2 hb
   refine wskip ?_
   refine region (ePb T hS [(0, Pt 901 0), (8, Sl a2 cap1.l c2), (9, I (lN cap1.l)), (10, I (wR (y106 + 1)))] fun a hS => ?_)
   exact ⟨wR (y106 + 1), ⟨Z, _, hm.1, hS.sl _, hO, hP, h114, h116, h117, h118, h119⟩, hm.2⟩
  replace hm := hm.2 hb
  refine wexit (by rfl) ?_
  exact ⟨Z, _, hm, hS.sl _, hO, hP, h107, h108, h109, h110⟩
 rintro a w130 ⟨Z, X129, hm, hS, hO, hP, h101, h102, h103, h104⟩
 unfold VC64_J1 at hm
 refine rPb T hS [(2, B true)] fun a hS => ?_
 refine wret ?_
 exact finR T hS hO (fun c h => f0of_zero kr h) (fun c h => f0of_else (l := [(i1, 901), (m4, 2004)]) h) (f1of [(i1, 901), (m4, 2004)]) rfl (r := [.bool true]) kr (fun X' hM hC => ⟨true, hm, rfl, ((hS.cell (id := 901) (t := 118) (cs := [I cap1.o.States, I cap1.o.Kinds, I cap1.o.Init, Sl a1 cap1.o.Rows c1, Sl a2 cap1.l c2, Sl a3 cap1.done c3, V (.map (some r4))]) kr).out (f := (f1of [(i1, 901), (m4, 2004)])) hC kr kr (hP.at 0 rfl)), (h104.out (f := (f1of [(i1, 901), (m4, 2004)])) hM hC kr kr)⟩)
theorem C64 (v : ∀ (cap1 : Search_seeker), preWh cap1 -> VC64 cap1 (fun r => r = search_seeker_whole cap1)) : S64 := by
 intro w X cap1 a1 c1 a2 c2 a3 c3 r4 m4  b1 i1 hp h1 h2 h3 h4 hc1 hA
 refine (W64 w X cap1 a1 c1 a2 c2 a3 c3 r4 m4  b1 i1 _ (v cap1 hp) h1 h2 h3 h4 hc1 hA).mono ?_
 rintro _ _ _ _ ⟨r, rfl, h⟩
 exact h
theorem W66 (N) (k54 : S54N N) (k67 : S67) (k68 : S68) (w0) (X0) (p_ : Api_Pick) (cap2 : Search_seeker) (cap3 : Int) (cap4 : List Api_Pick) (a1) (c1) (a2) (c2) (a3) (c3) (m3) (r4) (m4) (a5) (c5) (b1) (i1) (b2) (i2) (b3) (i3) (b4) (i4) (Q : (List Api_Pick) × Bool × Search_seeker -> Prop) (hm : VC66 N p_ cap2 cap3 cap4 Q) (h1 : RS tApi_Row w0 X0 a1 cap2.o.Rows c1) (h2 : RS tApi_Oper w0 X0 a2 cap2.l c2) (h3 : OS tBool 4 w0 X0 m3 a3 cap2.done c3) (h4 : OMS kvSearch_spot tI false w0 X0 m4 r4 cap2.failed) (h5 : RS tApi_Pick w0 X0 a5 cap4 c5) (hc1 : Cell w0 X0 b1 i1 101 [.pointer (some ⟨b2, 0, none⟩)]) (hc2 : Cell w0 X0 b2 i2 118 [.int .i64 cap2.o.States, .int .i64 cap2.o.Kinds, .int .i64 cap2.o.Init, .slice a1 cap2.o.Rows.length c1, .slice a2 cap2.l.length c2, .slice a3 cap2.done.length c3, .map (some r4)]) (hc3 : Cell w0 X0 b3 i3 3 [.int .i64 cap3]) (hc4 : Cell w0 X0 b4 i4 84 [.slice a5 cap4.length c5]) (hA : Apart [i1, i2, i3, i4, m3, m4]) :
  Ret Try.prog 66 #[.agg #[.int .i64 p_.Oper, .int .i64 p_.Result], .pointer (some ⟨b1, 0, none⟩), .pointer (some ⟨b3, 0, none⟩), .pointer (some ⟨b4, 0, none⟩)] (pR [i1, i2, i3, i4, m3, m4]) w0 X0 (fun w X' v => ∃ r, Q r /\ ∃ ra1 rc1 ra2 rc2 ra3 rc3 ra4 rc4, v = .tuple #[.slice ra1 r.1.length rc1, .bool r.2.1] /\ RS tApi_Pick w X' ra1 r.1 rc1 /\ RS tApi_Row w X' ra2 r.2.2.o.Rows rc2 /\ RS tApi_Oper w X' ra3 r.2.2.l rc3 /\ OS tBool 4 w X' m3 ra4 r.2.2.done rc4 /\ Cell w X' b1 i1 101 [.pointer (some ⟨b2, 0, none⟩)] /\ Cell w X' b2 i2 118 [.int .i64 r.2.2.o.States, .int .i64 r.2.2.o.Kinds, .int .i64 r.2.2.o.Init, .slice ra2 r.2.2.o.Rows.length rc2, .slice ra3 r.2.2.l.length rc3, .slice ra4 r.2.2.done.length rc4, .map (some r4)] /\ OMS kvSearch_spot tI false w X' m4 r4 r.2.2.failed /\ Cell w X' b3 i3 3 [.int .i64 cap3] /\ Cell w X' b4 i4 84 [.slice a5 cap4.length c5]) := by
 unfold VC66 at hm
 replace hm := hm (h1.sm kr)
 replace hm := hm (h2.sm kr)
 replace hm := hm (h3.sm kr)
 replace hm := hm (h5.sm kr)
 refine enterR Try.func66 rfl (f0of (zAc1 i1 i2 i3 i4 m3 m4)) (fun id => (bif Nat.beq id 901 then b1 else (bif Nat.beq id 902 then b2 else (bif Nat.beq id 903 then b3 else (bif Nat.beq id 904 then b4 else 0))))) (args := [V (.agg #[.int .i64 p_.Oper, .int .i64 p_.Result]), Pt 901 0, Pt 903 0, Pt 904 0]) (bxs := [(901, (101, [Pt 902 0])), (902, (118, [I cap2.o.States, I cap2.o.Kinds, I cap2.o.Init, Sl a1 cap2.o.Rows c1, Sl a2 cap2.l c2, Sl a3 cap2.done c3, V (.map (some r4))])), (903, (3, [I cap3])), (904, (84, [Sl a5 cap4 c5]))]) kr rfl (BoxesOK.cons kr (hc1.map (f0of_at 0 hA.1 rfl)) (BoxesOK.cons kr (hc2.map (f0of_at 1 hA.1 rfl)) (BoxesOK.cons kr (hc3.map (f0of_at 2 hA.1 rfl)) (BoxesOK.cons kr (hc4.map (f0of_at 3 hA.1 rfl)) BoxesOK.nil)))) (f0of_0 (fun q hq => (hA.2 q.1 (List.mem_map.2 ⟨q, hq, rfl⟩)).1)) ?_
 intro a hS hO hM
 have hP : Pin [(901, b1), (902, b2), (903, b3), (904, b4)] (fun id => (bif Nat.beq id 901 then b1 else (bif Nat.beq id 902 then b2 else (bif Nat.beq id 903 then b3 else (bif Nat.beq id 904 then b4 else 0))))) := by intro q hq; simp at hq; rcases hq with rfl | rfl | rfl | rfl <;> rfl
 generalize (fun id => (bif Nat.beq id 901 then b1 else (bif Nat.beq id 902 then b2 else (bif Nat.beq id 903 then b3 else (bif Nat.beq id 904 then b4 else 0))))) = Z at hS hP
 clear hc1 hc2 hc3 hc4
 replace h1 := h1.m0 hM
 replace h2 := h2.m0 hM
 replace h3 := h3.map (f := f0of (zAc1 i1 i2 i3 i4 m3 m4)) (f0of_at 4 hA.1 rfl) hM
 replace h4 := h4.map (f := f0of (zAc1 i1 i2 i3 i4 m3 m4)) (f0of_at 5 hA.1 rfl) hM
 replace h5 := h5.m0 hM
 refine rM T hS ⟨[(1, Pt 901 0), (2, Pt 903 0), (3, Pt 904 0), (4, Pt 5 0)], [(5, (109, (cK p_))), (901, (101, [Pt 902 0])), (902, (118, [I cap2.o.States, I cap2.o.Kinds, I cap2.o.Init, Sl a1 cap2.o.Rows c1, Sl a2 cap2.l c2, Sl a3 cap2.done c3, V (.map (some r4))])), (903, (3, [I cap3])), (904, (84, [Sl a5 cap4 c5]))]⟩ fun Z a w214 X215 hS hE hr => ?_
 replace hO := hO.m2 hE
 replace h1 := h1.m1 hE
 replace h2 := h2.m1 hE
 replace h3 := h3.m2 hE
 replace h4 := h4.m2 hE
 replace h5 := h5.m1 hE
 replace hP := hP.mv hr kr
 clear hE hr
 refine drawnSX [5, 901, 902, 903, 904] mixed hS ?_
 intro w101 X102 hS hE hD hH
 replace hO := hO.m2 hE
 replace h1 := h1.m1 hE
 replace h2 := h2.m1 hE
 replace h3 := h3.m2 hE
 replace h4 := h4.m2 hE
 replace h5 := h5.m1 hE
 refine tk T [0, 4, 5, 9, 1, 6, 10, 2, 7, 3, 8] [5, 901, 902, 903, 904] hS hH #[true, true, true, true, true, true, true, true, true, true, true, false, false, false, false, false, false, false, false, false, false, false] 11 ⟨[(1, Pt 901 0), (3, Pt 904 0), (4, Pt 5 0), (16, V (.agg #[.int .i64 cap2.o.States, .int .i64 cap2.o.Kinds, .int .i64 cap2.o.Init, .slice a1 cap2.o.Rows.length c1])), (17, I cap3), (21, Sl a2 cap2.l c2), (23, I p_.Oper)], [(5, (109, (cK p_))), (901, (101, [Pt 902 0])), (902, (118, [I cap2.o.States, I cap2.o.Kinds, I cap2.o.Init, Sl a1 cap2.o.Rows c1, Sl a2 cap2.l c2, Sl a3 cap2.done c3, V (.map (some r4))])), (903, (3, [I cap3])), (904, (84, [Sl a5 cap4 c5]))]⟩ fun a hS => ?_
 obtain ⟨hq, hm⟩ := hm
 refine dindex (e := 61) (k := .i64) T 11 hS kr kr kr (by rfl) kr hH kr kr h2 kr kr hq.1 hq.2 ?_
 intro A103 a h104 hS
 have h104b := h104.here
 refine dfieldA (off := 1) (fsz := 1) (ft := 3) (TF := tI) (y := (gi cap2.l p_.Oper).Kind) 12 T hS kr kr kr (by rfl) kr hH kr h104 kr kr kr (fun cs h => Api_Oper_f1 h) ?_
 intro A105 a h106 hbl hS
 have h106b := h104b
 rw [← hbl] at h106b
 clear hbl
 refine dload1 T 13 hS kr kr kr (by rfl) kr hH kr h106 h106b rfl kr ?_
 intro v107 a hv hS
 cases hv
 refine only 14 kr (by rfl) (call hS kr kr hb67 kr (fun _ _ => rfl) (k67 _ _ cap2.o cap3 ((gi cap2.l p_.Oper).Kind) a1 c1 h1) ?_)
 intro v108 a w109 X110 hE hp hS
 replace hO := hO.m2 hE
 replace hD := hD.ev hE rfl
 replace h1 := h1.m1 hE
 replace h2 := h2.m1 hE
 replace h3 := h3.m2 hE
 replace h4 := h4.m2 hE
 replace h5 := h5.m1 hE
 replace h104 := h104.m1 hE
 replace h106 := h106.m1 hE
 obtain ⟨r111, hr⟩ : ∃ r, object_Move cap2.o cap3 ((gi cap2.l p_.Oper).Kind) = r := ⟨_, rfl⟩
 replace hm := hm r111 hr
 rw [hr] at hp
 clear hr
 subst hp
 replace hS := hS.sl ⟨[(1, Pt 901 0), (3, Pt 904 0), (4, Pt 5 0), (16, V (.agg #[.int .i64 cap2.o.States, .int .i64 cap2.o.Kinds, .int .i64 cap2.o.Init, .slice a1 cap2.o.Rows.length c1])), (17, I cap3), (21, Sl a2 cap2.l c2), (23, I p_.Oper), (24, V (.pointer (some A103))), (25, V (.pointer (some A105))), (26, I ((gi cap2.l p_.Oper).Kind)), (27, V (.tuple #[.int .i64 r111.1, .int .i64 r111.2.1, .bool r111.2.2]))], [(5, (109, (cK p_))), (901, (101, [Pt 902 0])), (902, (118, [I cap2.o.States, I cap2.o.Kinds, I cap2.o.Init, Sl a1 cap2.o.Rows c1, Sl a2 cap2.l c2, Sl a3 cap2.done c3, V (.map (some r4))])), (903, (3, [I cap3])), (904, (84, [Sl a5 cap4 c5]))]⟩
 refine andH (Hold.of hS (bks := [5, 901, 902, 903, 904]) kr hD) ?_
 intro hH
 refine tk T [15, 16, 17, 18, 19, 20, 21] [5, 901, 902, 903, 904] hS hH #[true, true, true, true, true, true, true, true, true, true, true, true, true, true, true, true, true, true, true, true, true, true] 0 ⟨[(1, Pt 901 0), (3, Pt 904 0), (4, Pt 5 0), (7, I r111.1)], [(5, (109, (cK p_))), (901, (101, [Pt 902 0])), (902, (118, [I cap2.o.States, I cap2.o.Kinds, I cap2.o.Init, Sl a1 cap2.o.Rows c1, Sl a2 cap2.l c2, Sl a3 cap2.done c3, V (.map (some r4))])), (903, (3, [I cap3])), (904, (84, [Sl a5 cap4 c5]))]⟩ fun a hS => ?_
 refine drawnDone kr ?_
 replace hS := hS.sl ⟨[(1, Pt 901 0), (3, Pt 904 0), (4, Pt 5 0), (7, I r111.1)], [(5, (109, (cK p_))), (901, (101, [Pt 902 0])), (902, (118, [I cap2.o.States, I cap2.o.Kinds, I cap2.o.Init, Sl a1 cap2.o.Rows c1, Sl a2 cap2.l c2, Sl a3 cap2.done c3, V (.map (some r4))])), (903, (3, [I cap3])), (904, (84, [Sl a5 cap4 c5]))]⟩
 refine drawnSX [5, 901, 902, 903, 904] mixed hS ?_
 intro w112 X113 hS hE hD hH
 replace hO := hO.m2 hE
 replace h1 := h1.m1 hE
 replace h2 := h2.m1 hE
 replace h3 := h3.m2 hE
 replace h4 := h4.m2 hE
 replace h5 := h5.m1 hE
 refine tk T [0, 4, 1, 5, 2, 3] [5, 901, 902, 903, 904] hS hH #[true, true, true, true, true, true, false, false] 2 ⟨[(1, Pt 901 0), (3, Pt 904 0), (4, Pt 5 0), (7, I r111.1), (34, Sl a3 cap2.done c3), (36, I p_.Oper)], [(5, (109, (cK p_))), (901, (101, [Pt 902 0])), (902, (118, [I cap2.o.States, I cap2.o.Kinds, I cap2.o.Init, Sl a1 cap2.o.Rows c1, Sl a2 cap2.l c2, Sl a3 cap2.done c3, V (.map (some r4))])), (903, (3, [I cap3])), (904, (84, [Sl a5 cap4 c5]))]⟩ fun a hS => ?_
 obtain ⟨hq117, hm⟩ := hm
 refine only 6 kr (by rfl) (indexX (E := 4) (k := .i64) T hS kr kr kr kr h3 kr kr hq117.1 hq117.2 ?_)
 intro A114 a h116 h115 hS
 refine andH (Hold.of hS (bks := [5, 901, 902, 903, 904]) kr hD) ?_
 intro hH
 refine only 7 kr (by rfl) (storeO (x := true) (v := B true) (i := p_.Oper.toNat) (E := 4) (xs := cap2.done) T hS kr kr kr kr h3 h116 (by have := hq117.1; have := hq117.2; omega) kr (fun _ _ _ => rfl) ?_)
 intro a w118 hE h119 hS
 clear h3 h116 h115 hq117
 replace hO := hO.m2 hE
 replace hD := hD.ev hE rfl
 replace h1 := h1.m1 hE
 replace h2 := h2.m1 hE
 replace h4 := h4.m2 hE
 replace h5 := h5.m1 hE
 replace hS := hS.conv (t := 34) (y := .slice a3 (cap2.done.set p_.Oper.toNat true).length c3) kr (by rw [List.length_set])
 refine andH (Hold.of hS (bks := [5, 901, 902, 903, 904]) kr hD) ?_
 intro hH
 have hx120 := hS.cell (id := 902) (t := 118) (cs := [I cap2.o.States, I cap2.o.Kinds, I cap2.o.Init, Sl a1 cap2.o.Rows c1, Sl a2 cap2.l c2, Sl a3 cap2.done c3, V (.map (some r4))]) kr
 replace hx120 := hx120.conv (vals' := [.int .i64 cap2.o.States, .int .i64 cap2.o.Kinds, .int .i64 cap2.o.Init, .slice a1 cap2.o.Rows.length c1, .slice a2 cap2.l.length c2, .slice a3 (cap2.done.set p_.Oper.toNat true).length c3, .map (some r4)]) (by rw [List.length_set]; rfl)
 replace hS := hS.addbox (id := 902) (t := 118) (cs := [I cap2.o.States, I cap2.o.Kinds, I cap2.o.Init, Sl a1 cap2.o.Rows c1, Sl a2 cap2.l c2, Sl a3 (cap2.done.set p_.Oper.toNat true) c3, V (.map (some r4))]) kr hx120
 clear hx120
 refine drawnDone kr ?_
 replace hS := hS.sl ⟨[(1, Pt 901 0), (3, Pt 904 0), (4, Pt 5 0), (7, I r111.1)], [(5, (109, (cK p_))), (901, (101, [Pt 902 0])), (902, (118, [I cap2.o.States, I cap2.o.Kinds, I cap2.o.Init, Sl a1 cap2.o.Rows c1, Sl a2 cap2.l c2, Sl a3 (cap2.done.set p_.Oper.toNat true) c3, V (.map (some r4))])), (903, (3, [I cap3])), (904, (84, [Sl a5 cap4 c5]))]⟩
 refine drawnSX [5, 901, 903, 904] mixed hS ?_
 intro w121 X122 hS hE hD hH
 replace hO := hO.m2 hE
 replace h1 := h1.m1 hE
 replace h2 := h2.m1 hE
 replace h4 := h4.m2 hE
 replace h5 := h5.m1 hE
 replace h119 := h119.m2 hE
 refine tk T [0, 1, 2, 4] [5, 901, 903, 904] hS hH #[true, true, true, false, true, false, false, false, false, false, false, false, false] 9 ⟨[(1, Pt 901 0), (4, Pt 5 0), (39, Pt 902 0), (40, I r111.1), (41, Sl a5 cap4 c5), (43, V (.agg #[.int .i64 p_.Oper, .int .i64 p_.Result]))], [(5, (109, (cK p_))), (901, (101, [Pt 902 0])), (902, (118, [I cap2.o.States, I cap2.o.Kinds, I cap2.o.Init, Sl a1 cap2.o.Rows c1, Sl a2 cap2.l c2, Sl a3 (cap2.done.set p_.Oper.toNat true) c3, V (.map (some r4))])), (903, (3, [I cap3])), (904, (84, [Sl a5 cap4 c5]))]⟩ fun a hS => ?_
 obtain ⟨hgp3, hm⟩ := hm
 obtain ⟨r126, hgr3⟩ : ∃ r, slices_Clone_api_Pick_api_Pick cap4 = r := ⟨_, rfl⟩
 replace hm := hm r126 hgr3
 refine drcut (fun a w => ∃ X a146 c147 a149 c150, St Try.f66.ntmps ⟨[(1, Pt 901 0), (4, Pt 5 0), (39, Pt 902 0), (40, I r111.1), (42, Sl a146 r126 c147), (44, Sl a149 [p_] c150)], [(5, (109, (cK p_))), (901, (101, [Pt 902 0])), (902, (118, [I cap2.o.States, I cap2.o.Kinds, I cap2.o.Init, Sl a1 cap2.o.Rows c1, Sl a2 cap2.l c2, Sl a3 (cap2.done.set p_.Oper.toNat true) c3, V (.map (some r4))])), (903, (3, [I cap3])), (904, (84, [Sl a5 cap4 c5]))]⟩ Z a w X /\ OldR (f0of (zAc1 i1 i2 i3 i4 m3 m4)) w0 X0 w X /\ M0 w121 X122 w X /\ Hold w121 X122 (filt [5, 901, 903, 904] ⟨[(1, Pt 901 0), (3, Pt 904 0), (4, Pt 5 0), (7, I r111.1)], [(5, (109, (cK p_))), (901, (101, [Pt 902 0])), (902, (118, [I cap2.o.States, I cap2.o.Kinds, I cap2.o.Init, Sl a1 cap2.o.Rows c1, Sl a2 cap2.l c2, Sl a3 (cap2.done.set p_.Oper.toNat true) c3, V (.map (some r4))])), (903, (3, [I cap3])), (904, (84, [Sl a5 cap4 c5]))]⟩) Z w /\ OS tApi_Pick 109 w X 1043 a146 r126 c147 /\ RS tApi_Pick w X a149 [p_] c150 /\ RS tApi_Row w X a1 cap2.o.Rows c1 /\ RS tApi_Oper w X a2 cap2.l c2 /\ OS tBool 4 w X 2003 a3 (cap2.done.set p_.Oper.toNat true) c3 /\ OMS kvSearch_spot tI false w X 2004 r4 cap2.failed /\ RS tApi_Pick w X a5 cap4 c5) #[true, true, true, true, true, true, false, false, false, false, false, false, false] 7 ?_ (fun H => ?_)
 ·rintro a w179 ⟨X178, a146, c147, a149, c150, hS, hO, hD, hH, h145, h148, h151, h152, h153, h154, h155⟩
  replace hm := hm (h145.sm kr)
  clear hgp3 hgr3
  obtain ⟨hq, hm⟩ := hm
  obtain ⟨news, hN⟩ := h148.src
  refine only 6 kr (by rfl) (append (E := 109) (T := tApi_Pick) (col := 1043) (xs := r126) T hS kr kr kr kr h145 hN kr kr kr kr hq ?_)
  intro a183 c184 a w180 X181 hE h182 hS
  clear hq hN
  clear h145
  replace hO := hO.m2 hE
  replace hD := hD.ev hE rfl
  replace h148 := h148.m1 hE
  replace h151 := h151.m1 hE
  replace h152 := h152.m1 hE
  replace h153 := h153.m2 hE
  replace h154 := h154.m2 hE
  replace h155 := h155.m1 hE
  replace hS := hS.sl ⟨[(1, Pt 901 0), (4, Pt 5 0), (39, Pt 902 0), (40, I r111.1), (44, Sl a149 [p_] c150), (45, Sl a183 (r126 ++ [p_]) c184)], [(5, (109, (cK p_))), (901, (101, [Pt 902 0])), (902, (118, [I cap2.o.States, I cap2.o.Kinds, I cap2.o.Init, Sl a1 cap2.o.Rows c1, Sl a2 cap2.l c2, Sl a3 (cap2.done.set p_.Oper.toNat true) c3, V (.map (some r4))])), (903, (3, [I cap3])), (904, (84, [Sl a5 cap4 c5]))]⟩
  refine andH (Hold.of hS (bks := [5, 901, 903, 904]) kr hD) ?_
  intro hH
  obtain ⟨X185, hE, hF⟩ := h182.freeze (by decide)
  replace hS := hS.ev hE (xone_box kr)
  replace hO := hO.m2 hE
  replace hD := hD.ev hE rfl
  replace h148 := h148.m1 hE
  replace h151 := h151.m1 hE
  replace h152 := h152.m1 hE
  replace h153 := h153.m2 hE
  replace h154 := h154.m2 hE
  replace h155 := h155.m1 hE
  have h186 := hF; clear hE hF
  obtain ⟨hq, hm⟩ := hm
  refine only 7 kr (by rfl) (callR hS kr kr hb54 kr (k54 _ _ r111.1 (r126 ++ [p_]) (⟨cap2.o, cap2.l, (cap2.done.set p_.Oper.toNat true), cap2.failed⟩ : Search_seeker) a183 c184 a1 c1 a2 c2 a3 c3 2003 r4 2004 (Z 902) 902 hq.1 hq.2 h186 h151 h152 h153 h154 (hS.cell (id := 902) (t := 118) (cs := [I cap2.o.States, I cap2.o.Kinds, I cap2.o.Init, Sl a1 cap2.o.Rows c1, Sl a2 cap2.l c2, Sl a3 (cap2.done.set p_.Oper.toNat true) c3, V (.map (some r4))]) kr) ⟨by decide, by decide⟩) ?_)
  intro v187 a w188 X189 hE hp hS
  clear h154
  clear h153
  replace hO := hO.m2 hE
  replace hD := hD.ev hE rfl
  replace h148 := h148.m1 hE
  replace h151 := h151.m1 hE
  replace h152 := h152.m1 hE
  replace h155 := h155.m1 hE
  replace h186 := h186.m1 hE
  obtain ⟨a191, c192, a194, c195, a197, c198, a200, c201, hp, h193, h196, h199, h202, hc204, h203⟩ := hp
  obtain ⟨r190, hr⟩ : ∃ r, search_seeker_first r111.1 (r126 ++ [p_]) (⟨cap2.o, cap2.l, (cap2.done.set p_.Oper.toNat true), cap2.failed⟩ : Search_seeker) = r := ⟨_, rfl⟩
  replace hm := hm r190 hr
  rw [hr] at hp h193 h196 h199 h202 hc204 h203
  clear hr
  subst hp
  replace hm := hm (h193.sm kr)
  replace hm := hm (h196.sm kr)
  replace hm := hm (h199.sm kr)
  replace hm := hm (h202.sm kr)
  replace hS := hS.addbox (id := 902) (t := 118) (cs := [I r190.2.2.o.States, I r190.2.2.o.Kinds, I r190.2.2.o.Init, Sl a194 r190.2.2.o.Rows c195, Sl a197 r190.2.2.l c198, Sl a200 r190.2.2.done c201, V (.map (some r4))]) kr hc204
  clear hc204
  replace hS := hS.sl ⟨[(1, Pt 901 0), (4, Pt 5 0), (39, Pt 902 0), (40, I r111.1), (44, Sl a149 [p_] c150), (45, Sl a183 (r126 ++ [p_]) c184), (46, V (.tuple #[.slice a191 r190.1.length c192, .bool r190.2.1]))], [(5, (109, (cK p_))), (901, (101, [Pt 902 0])), (902, (118, [I r190.2.2.o.States, I r190.2.2.o.Kinds, I r190.2.2.o.Init, Sl a194 r190.2.2.o.Rows c195, Sl a197 r190.2.2.l c198, Sl a200 r190.2.2.done c201, V (.map (some r4))])), (903, (3, [I cap3])), (904, (84, [Sl a5 cap4 c5]))]⟩
  refine andH (Hold.of hS (bks := [5, 901, 903, 904]) kr hD) ?_
  intro hH
  refine tk T [8, 9, 10, 11, 12] [5, 901, 903, 904] hS hH #[true, true, true, true, true, true, true, true, true, true, true, true, true] 0 ⟨[(1, Pt 901 0), (4, Pt 5 0), (10, Sl a191 r190.1 c192), (11, B r190.2.1)], [(5, (109, (cK p_))), (901, (101, [Pt 902 0])), (902, (118, [I r190.2.2.o.States, I r190.2.2.o.Kinds, I r190.2.2.o.Init, Sl a194 r190.2.2.o.Rows c195, Sl a197 r190.2.2.l c198, Sl a200 r190.2.2.done c201, V (.map (some r4))])), (903, (3, [I cap3])), (904, (84, [Sl a5 cap4 c5]))]⟩ fun a hS => ?_
  refine drawnDone kr ?_
  replace hS := hS.sl ⟨[(1, Pt 901 0), (4, Pt 5 0), (10, Sl a191 r190.1 c192), (11, B r190.2.1)], [(5, (109, (cK p_))), (901, (101, [Pt 902 0])), (902, (118, [I r190.2.2.o.States, I r190.2.2.o.Kinds, I r190.2.2.o.Init, Sl a194 r190.2.2.o.Rows c195, Sl a197 r190.2.2.l c198, Sl a200 r190.2.2.done c201, V (.map (some r4))])), (903, (3, [I cap3])), (904, (84, [Sl a5 cap4 c5]))]⟩
  refine drawnSX [5, 901, 902, 903, 904] mixed hS ?_
  intro w205 X206 hS hE hD hH
  replace hO := hO.m2 hE
  replace h155 := h155.m1 hE
  replace h203 := h203.m2 hE
  replace h193 := h193.m1 hE
  replace h196 := h196.m1 hE
  replace h199 := h199.m1 hE
  replace h202 := h202.m2 hE
  refine tk T [0, 4, 1, 5, 2, 3] [5, 901, 902, 903, 904] hS hH #[true, true, true, true, true, true, false, false] 2 ⟨[(10, Sl a191 r190.1 c192), (11, B r190.2.1), (52, Sl a200 r190.2.2.done c201), (54, I p_.Oper)], [(5, (109, (cK p_))), (901, (101, [Pt 902 0])), (902, (118, [I r190.2.2.o.States, I r190.2.2.o.Kinds, I r190.2.2.o.Init, Sl a194 r190.2.2.o.Rows c195, Sl a197 r190.2.2.l c198, Sl a200 r190.2.2.done c201, V (.map (some r4))])), (903, (3, [I cap3])), (904, (84, [Sl a5 cap4 c5]))]⟩ fun a hS => ?_
  obtain ⟨hq210, hm⟩ := hm
  refine only 6 kr (by rfl) (indexX (E := 4) (k := .i64) T hS kr kr kr kr h202 kr kr hq210.1 hq210.2 ?_)
  intro A207 a h209 h208 hS
  refine andH (Hold.of hS (bks := [5, 901, 902, 903, 904]) kr hD) ?_
  intro hH
  refine only 7 kr (by rfl) (storeO (x := false) (v := B false) (i := p_.Oper.toNat) (E := 4) (xs := r190.2.2.done) T hS kr kr kr kr h202 h209 (by have := hq210.1; have := hq210.2; omega) kr (fun _ _ _ => rfl) ?_)
  intro a w211 hE h212 hS
  clear h202 h209 h208 hq210
  replace hO := hO.m2 hE
  replace hD := hD.ev hE rfl
  replace h155 := h155.m1 hE
  replace h203 := h203.m2 hE
  replace h193 := h193.m1 hE
  replace h196 := h196.m1 hE
  replace h199 := h199.m1 hE
  replace hS := hS.conv (t := 52) (y := .slice a200 (r190.2.2.done.set p_.Oper.toNat false).length c201) kr (by rw [List.length_set])
  refine andH (Hold.of hS (bks := [5, 901, 902, 903, 904]) kr hD) ?_
  intro hH
  have hx213 := hS.cell (id := 902) (t := 118) (cs := [I r190.2.2.o.States, I r190.2.2.o.Kinds, I r190.2.2.o.Init, Sl a194 r190.2.2.o.Rows c195, Sl a197 r190.2.2.l c198, Sl a200 r190.2.2.done c201, V (.map (some r4))]) kr
  replace hx213 := hx213.conv (vals' := [.int .i64 r190.2.2.o.States, .int .i64 r190.2.2.o.Kinds, .int .i64 r190.2.2.o.Init, .slice a194 r190.2.2.o.Rows.length c195, .slice a197 r190.2.2.l.length c198, .slice a200 (r190.2.2.done.set p_.Oper.toNat false).length c201, .map (some r4)]) (by rw [List.length_set]; rfl)
  replace hS := hS.addbox (id := 902) (t := 118) (cs := [I r190.2.2.o.States, I r190.2.2.o.Kinds, I r190.2.2.o.Init, Sl a194 r190.2.2.o.Rows c195, Sl a197 r190.2.2.l c198, Sl a200 (r190.2.2.done.set p_.Oper.toNat false) c201, V (.map (some r4))]) kr hx213
  clear hx213
  refine drawnDone kr ?_
  replace hS := hS.sl ⟨[(10, Sl a191 r190.1 c192), (11, B r190.2.1)], [(901, (101, [Pt 902 0])), (902, (118, [I r190.2.2.o.States, I r190.2.2.o.Kinds, I r190.2.2.o.Init, Sl a194 r190.2.2.o.Rows c195, Sl a197 r190.2.2.l c198, Sl a200 (r190.2.2.done.set p_.Oper.toNat false) c201, V (.map (some r4))])), (903, (3, [I cap3])), (904, (84, [Sl a5 cap4 c5]))]⟩
  refine rP T hS ⟨[(5, Sl a191 r190.1 c192), (6, B r190.2.1)], [(901, (101, [Pt 902 0])), (902, (118, [I r190.2.2.o.States, I r190.2.2.o.Kinds, I r190.2.2.o.Init, Sl a194 r190.2.2.o.Rows c195, Sl a197 r190.2.2.l c198, Sl a200 (r190.2.2.done.set p_.Oper.toNat false) c201, V (.map (some r4))])), (903, (3, [I cap3])), (904, (84, [Sl a5 cap4 c5]))]⟩ fun a hS => ?_
  refine wret ?_
  exact finR T hS hO (fun c h => f0of_zero kr h) (fun c h => f0of_else (l := (zAc1 i1 i2 i3 i4 m3 m4)) h) (f1of (zAc1 i1 i2 i3 i4 m3 m4)) rfl (r := [.slice a191 r190.1.length c192, .bool r190.2.1]) kr (fun X' hM hC => ⟨(r190.1, r190.2.1, (⟨r190.2.2.o, r190.2.2.l, (r190.2.2.done.set p_.Oper.toNat false), r190.2.2.failed⟩ : Search_seeker)), hm, a191, c192, a194, c195, a197, c198, a200, c201, rfl, h193.m0 hM, h196.m0 hM, h199.m0 hM, (OS.out (f := (f1of (zAc1 i1 i2 i3 i4 m3 m4))) h212 hM hC kr), (Cell.ptr (id := 902) ((hS.cell (id := 901) (t := 101) (cs := [Pt 902 0]) kr).out (f := (f1of (zAc1 i1 i2 i3 i4 m3 m4))) hC kr kr (hP.at 0 rfl)) (hP.at 1 rfl)), ((hS.cell (id := 902) (t := 118) (cs := [I r190.2.2.o.States, I r190.2.2.o.Kinds, I r190.2.2.o.Init, Sl a194 r190.2.2.o.Rows c195, Sl a197 r190.2.2.l c198, Sl a200 (r190.2.2.done.set p_.Oper.toNat false) c201, V (.map (some r4))]) kr).out (f := (f1of (zAc1 i1 i2 i3 i4 m3 m4))) hC kr kr (hP.at 1 rfl)), (h203.out (f := (f1of (zAc1 i1 i2 i3 i4 m3 m4))) hM hC kr kr), ((hS.cell (id := 903) (t := 3) (cs := [I cap3]) kr).out (f := (f1of (zAc1 i1 i2 i3 i4 m3 m4))) hC kr kr (hP.at 2 rfl)), ((hS.cell (id := 904) (t := 84) (cs := [Sl a5 cap4 c5]) kr).out (f := (f1of (zAc1 i1 i2 i3 i4 m3 m4))) hC kr kr (hP.at 3 rfl))⟩)
 clear hm
 refine anyOf (is := [3, 5]) kr (by decide) ?_
 intro i hi
 rcases mem2 hi with rfl | rfl
 ·have hq := hgp3
  refine oneOp (by rfl) (call hS kr kr hb68 kr (fun _ _ => rfl) (k68 _ _ cap4 a5 c5 1043 hq h5) ?_)
  intro v156 a w157 X158 hE hp hS
  replace hO := hO.m2 hE
  replace hD := hD.ev hE rfl
  replace h1 := h1.m1 hE
  replace h2 := h2.m1 hE
  replace h4 := h4.m2 hE
  replace h5 := h5.m1 hE
  replace h119 := h119.m2 hE
  obtain ⟨a160, c161, hp, h162⟩ := hp
  rw [hgr3] at hp h162
  subst hp
  replace hS := hS.sl ⟨[(1, Pt 901 0), (4, Pt 5 0), (39, Pt 902 0), (40, I r111.1), (41, Sl a5 cap4 c5), (43, V (.agg #[.int .i64 p_.Oper, .int .i64 p_.Result])), (42, Sl a160 r126 c161)], [(5, (109, (cK p_))), (901, (101, [Pt 902 0])), (902, (118, [I cap2.o.States, I cap2.o.Kinds, I cap2.o.Init, Sl a1 cap2.o.Rows c1, Sl a2 cap2.l c2, Sl a3 (cap2.done.set p_.Oper.toNat true) c3, V (.map (some r4))])), (903, (3, [I cap3])), (904, (84, [Sl a5 cap4 c5]))]⟩
  refine andH (Hold.of hS (bks := [5, 901, 903, 904]) kr hD) ?_
  intro hH
  refine only 5 kr (by rfl) (lit (E := 109) (col := 0) (T := tApi_Pick) (vals := [.agg #[.int .i64 p_.Oper, .int .i64 p_.Result]]) (ys := [p_]) T hS kr kr kr kr (by exact ⟨rfl, trivial⟩) rfl kr kr kr kr ?_)
  intro b163 a w164 X165 hE h166 hN hS
  clear hN
  replace hO := hO.m2 hE
  replace hD := hD.ev hE rfl
  replace h1 := h1.m1 hE
  replace h2 := h2.m1 hE
  replace h4 := h4.m2 hE
  replace h5 := h5.m1 hE
  replace h119 := h119.m2 hE
  replace h162 := h162.m2 hE
  replace h166 := h166.rs0
  refine andH (Hold.of hS (bks := [5, 901, 903, 904]) kr hD) ?_
  intro hH
  exact H _ _ ⟨_, a160, c161, (some ⟨b163, 0, none⟩), 1, hS.sl _, hO, hD, hH, h162, h166, h1, h2, h119, h4, h5⟩
 refine oneOp (by rfl) (lit (E := 109) (col := 0) (T := tApi_Pick) (vals := [.agg #[.int .i64 p_.Oper, .int .i64 p_.Result]]) (ys := [p_]) T hS kr kr kr kr (by exact ⟨rfl, trivial⟩) rfl kr kr kr kr ?_)
 intro b167 a w168 X169 hE h170 hN hS
 clear hN
 replace hO := hO.m2 hE
 replace hD := hD.ev hE rfl
 replace h1 := h1.m1 hE
 replace h2 := h2.m1 hE
 replace h4 := h4.m2 hE
 replace h5 := h5.m1 hE
 replace h119 := h119.m2 hE
 replace h170 := h170.rs0
 refine andH (Hold.of hS (bks := [5, 901, 903, 904]) kr hD) ?_
 intro hH
 have hq := hgp3
 refine only 3 kr (by rfl) (call hS kr kr hb68 kr (fun _ _ => rfl) (k68 _ _ cap4 a5 c5 1043 hq h5) ?_)
 intro v171 a w172 X173 hE hp hS
 replace hO := hO.m2 hE
 replace hD := hD.ev hE rfl
 replace h1 := h1.m1 hE
 replace h2 := h2.m1 hE
 replace h4 := h4.m2 hE
 replace h5 := h5.m1 hE
 replace h119 := h119.m2 hE
 replace h170 := h170.m1 hE
 obtain ⟨a175, c176, hp, h177⟩ := hp
 rw [hgr3] at hp h177
 subst hp
 replace hS := hS.sl ⟨[(1, Pt 901 0), (4, Pt 5 0), (39, Pt 902 0), (40, I r111.1), (41, Sl a5 cap4 c5), (43, V (.agg #[.int .i64 p_.Oper, .int .i64 p_.Result])), (44, Sl (some ⟨b167, 0, none⟩) [p_] 1), (42, Sl a175 r126 c176)], [(5, (109, (cK p_))), (901, (101, [Pt 902 0])), (902, (118, [I cap2.o.States, I cap2.o.Kinds, I cap2.o.Init, Sl a1 cap2.o.Rows c1, Sl a2 cap2.l c2, Sl a3 (cap2.done.set p_.Oper.toNat true) c3, V (.map (some r4))])), (903, (3, [I cap3])), (904, (84, [Sl a5 cap4 c5]))]⟩
 refine andH (Hold.of hS (bks := [5, 901, 903, 904]) kr hD) ?_
 intro hH
 exact H _ _ ⟨_, a175, c176, (some ⟨b167, 0, none⟩), 1, hS.sl _, hO, hD, hH, h177, h170, h1, h2, h119, h4, h5⟩
theorem C66 (N : Nat) (k54 : S54N N) (k67 : S67) (k68 : S68) (v : ∀ (p_ : Api_Pick) (cap2 : Search_seeker) (cap3 : Int) (cap4 : List Api_Pick), preTr p_ cap2 cap3 cap4 -> mTry p_ cap2 cap3 cap4 < N + 1 -> VC66 N p_ cap2 cap3 cap4 (fun r => r = search_seeker_first_1 p_ cap2 cap3 cap4)) : S66N (N + 1) := by
 intro w X p_ cap2 cap3 cap4 a1 c1 a2 c2 a3 c3 m3 r4 m4 a5 c5  b1 i1 b2 i2 b3 i3 b4 i4 hp hms h1 h2 h3 h4 h5 hc1 hc2 hc3 hc4 hA
 refine (W66 N k54 k67 k68 w X p_ cap2 cap3 cap4 a1 c1 a2 c2 a3 c3 m3 r4 m4 a5 c5  b1 i1 b2 i2 b3 i3 b4 i4 _ (v p_ cap2 cap3 cap4 hp hms) h1 h2 h3 h4 h5 hc1 hc2 hc3 hc4 hA).mono ?_
 rintro _ _ _ _ ⟨r, rfl, h⟩
 exact h
theorem W54 (N) (k64 : S64) (k65 : S65) (k66 : S66N N) (k69 : S69) (w0) (X0) (state : Int) (so : List Api_Pick) (cap1 : Search_seeker) (a1) (c1) (a2) (c2) (a3) (c3) (a4) (c4) (m4) (r5) (m5) (b1) (i1) (Q : (List Api_Pick) × Bool × Search_seeker -> Prop) (hm : VC54 N state so cap1 Q) (h1 : RS tApi_Pick w0 X0 a1 so c1) (h2 : RS tApi_Row w0 X0 a2 cap1.o.Rows c2) (h3 : RS tApi_Oper w0 X0 a3 cap1.l c3) (h4 : OS tBool 4 w0 X0 m4 a4 cap1.done c4) (h5 : OMS kvSearch_spot tI false w0 X0 m5 r5 cap1.failed) (hc1 : Cell w0 X0 b1 i1 118 [.int .i64 cap1.o.States, .int .i64 cap1.o.Kinds, .int .i64 cap1.o.Init, .slice a2 cap1.o.Rows.length c2, .slice a3 cap1.l.length c3, .slice a4 cap1.done.length c4, .map (some r5)]) (hA : Apart [i1, m4, m5]) :
  Ret Try.prog 54 #[.pointer (some ⟨b1, 0, none⟩), .int .i64 state, .slice a1 so.length c1] (pR [i1, m4, m5]) w0 X0 (fun w X' v => ∃ r, Q r /\ ∃ ra1 rc1 ra2 rc2 ra3 rc3 ra4 rc4, v = .tuple #[.slice ra1 r.1.length rc1, .bool r.2.1] /\ RS tApi_Pick w X' ra1 r.1 rc1 /\ RS tApi_Row w X' ra2 r.2.2.o.Rows rc2 /\ RS tApi_Oper w X' ra3 r.2.2.l rc3 /\ OS tBool 4 w X' m4 ra4 r.2.2.done rc4 /\ Cell w X' b1 i1 118 [.int .i64 r.2.2.o.States, .int .i64 r.2.2.o.Kinds, .int .i64 r.2.2.o.Init, .slice ra2 r.2.2.o.Rows.length rc2, .slice ra3 r.2.2.l.length rc3, .slice ra4 r.2.2.done.length rc4, .map (some r5)] /\ OMS kvSearch_spot tI false w X' m5 r5 r.2.2.failed) := by
 unfold VC54 at hm
 replace hm := hm (h1.sm kr)
 replace hm := hm (h2.sm kr)
 replace hm := hm (h3.sm kr)
 replace hm := hm (h4.sm kr)
 refine enterR Try.func54 rfl (f0of (zAc2 i1 m4 m5)) (fun id => (bif Nat.beq id 901 then b1 else 0)) (args := [Pt 901 0, I state, Sl a1 so c1]) (bxs := [(901, (118, [I cap1.o.States, I cap1.o.Kinds, I cap1.o.Init, Sl a2 cap1.o.Rows c2, Sl a3 cap1.l c3, Sl a4 cap1.done c4, V (.map (some r5))]))]) kr rfl (BoxesOK.cons kr (hc1.map (f0of_at 0 hA.1 rfl)) BoxesOK.nil) (f0of_0 (fun q hq => (hA.2 q.1 (List.mem_map.2 ⟨q, hq, rfl⟩)).1)) ?_
 intro a hS hO hM
 have hP : Pin [(901, b1)] (fun id => (bif Nat.beq id 901 then b1 else 0)) := by intro q hq; simp at hq; rcases hq with rfl <;> rfl
 generalize (fun id => (bif Nat.beq id 901 then b1 else 0)) = Z at hS hP
 clear hc1
 replace h1 := h1.m0 hM
 replace h2 := h2.m0 hM
 replace h3 := h3.m0 hM
 replace h4 := h4.map (f := f0of (zAc2 i1 m4 m5)) (f0of_at 1 hA.1 rfl) hM
 replace h5 := h5.map (f := f0of (zAc2 i1 m4 m5)) (f0of_at 2 hA.1 rfl) hM
 refine rM T hS ⟨[(3, Pt 4 0), (4, Pt 5 0), (5, Pt 6 0)], [(4, (101, [Pt 901 0])), (5, (3, [I state])), (6, (84, [Sl a1 so c1])), (901, (118, [I cap1.o.States, I cap1.o.Kinds, I cap1.o.Init, Sl a2 cap1.o.Rows c2, Sl a3 cap1.l c3, Sl a4 cap1.done c4, V (.map (some r5))]))]⟩ fun Z a w251 X252 hS hE hr => ?_
 replace hO := hO.m2 hE
 replace h1 := h1.m1 hE
 replace h2 := h2.m1 hE
 replace h3 := h3.m1 hE
 replace h4 := h4.m2 hE
 replace h5 := h5.m2 hE
 replace hP := hP.mv hr kr
 clear hE hr
 refine wseq ?_
 refine regO ?_
 refine oPb T hS 1 [(3, Pt 4 0), (4, Pt 5 0), (5, Pt 6 0), (14, Pt 901 0)] fun a hS => ?_
 have hb105 := (hS.cell (id := 901) (t := 118) (cs := [I cap1.o.States, I cap1.o.Kinds, I cap1.o.Init, Sl a2 cap1.o.Rows c2, Sl a3 cap1.l c3, Sl a4 cap1.done c4, V (.map (some r5))]) kr)
 have ho106 := h5
 obtain ⟨hq, hm⟩ := hm
 refine op1 (callR hS kr kr hb64 kr (Ret.unlendR kr (k64 _ (lend 2004 _) cap1 a2 c2 a3 c3 a4 c4 r5 2005 (Z 901) 901 hq (h2.m0 (M0.lend 2004)) (h3.m0 (M0.lend 2004)) h4.lend (h5.lendK kr) (hb105.lend kr) ⟨by decide, by decide⟩)) ?_)
 intro v101 a w102 X103 hE hp hS
 clear h5
 replace hO := hO.m2 hE
 replace h1 := h1.m1 hE
 replace h2 := h2.m1 hE
 replace h3 := h3.m1 hE
 replace h4 := h4.m2 hE
 obtain ⟨hkeep, _, hp⟩ := hp
 obtain ⟨hp, hc107, h108⟩ := hp
 replace hc107 := hc107.back hb105 hkeep
 replace h108 := h108.back ho106 hkeep (fun h => h)
 clear hkeep hb105 ho106
 obtain ⟨r104, hr⟩ : ∃ r, search_seeker_whole cap1 = r := ⟨_, rfl⟩
 replace hm := hm r104 hr
 rw [hr] at hp
 clear hr
 subst hp
 replace hS := hS.addbox (id := 901) (t := 118) (cs := [I cap1.o.States, I cap1.o.Kinds, I cap1.o.Init, Sl a2 cap1.o.Rows c2, Sl a3 cap1.l c3, Sl a4 cap1.done c4, V (.map (some r5))]) kr hc107
 clear hc107
 refine doneK ?_
 refine wcond hS (b := r104) kr (fun hb => ?_) fun hb => ?_
 ·replace hm := hm.1 hb
  refine rP T hS ⟨[(6, Sl a1 so c1), (7, B true)], [(901, (118, [I cap1.o.States, I cap1.o.Kinds, I cap1.o.Init, Sl a2 cap1.o.Rows c2, Sl a3 cap1.l c3, Sl a4 cap1.done c4, V (.map (some r5))]))]⟩ fun a hS => ?_
  refine wret ?_
  exact finR T hS hO (fun c h => f0of_zero kr h) (fun c h => f0of_else (l := (zAc2 i1 m4 m5)) h) (f1of (zAc2 i1 m4 m5)) rfl (r := [.slice a1 so.length c1, .bool true]) kr (fun X' hM hC => ⟨(so, true, cap1), hm, a1, c1, a2, c2, a3, c3, a4, c4, rfl, h1.m0 hM, h2.m0 hM, h3.m0 hM, (OS.out (f := (f1of (zAc2 i1 m4 m5))) h4 hM hC kr), ((hS.cell (id := 901) (t := 118) (cs := [I cap1.o.States, I cap1.o.Kinds, I cap1.o.Init, Sl a2 cap1.o.Rows c2, Sl a3 cap1.l c3, Sl a4 cap1.done c4, V (.map (some r5))]) kr).out (f := (f1of (zAc2 i1 m4 m5))) hC kr kr (hP.at 0 rfl)), (h108.out (f := (f1of (zAc2 i1 m4 m5))) hM hC kr kr)⟩)
 replace hm := hm.2 hb
 refine wskip ?_
 refine regO ?_
 refine oPb T hS 2 [(3, Pt 4 0), (4, Pt 5 0), (5, Pt 6 0), (17, Pt 901 0), (18, I state)] fun a hS => ?_
 have hb113 := (hS.cell (id := 901) (t := 118) (cs := [I cap1.o.States, I cap1.o.Kinds, I cap1.o.Init, Sl a2 cap1.o.Rows c2, Sl a3 cap1.l c3, Sl a4 cap1.done c4, V (.map (some r5))]) kr)
 have ho114 := h108
 refine op1 (callR hS kr kr hb65 kr (Ret.unlendR kr (k65 _ (lend 2004 _) state cap1 a2 c2 a3 c3 a4 c4 r5 2005 (Z 901) 901 (h2.m0 (M0.lend 2004)) (h3.m0 (M0.lend 2004)) h4.lend (h108.lendK kr) (hb113.lend kr) ⟨by decide, by decide⟩)) ?_)
 intro v109 a w110 X111 hE hp hS
 clear h108
 replace hO := hO.m2 hE
 replace h1 := h1.m1 hE
 replace h2 := h2.m1 hE
 replace h3 := h3.m1 hE
 replace h4 := h4.m2 hE
 obtain ⟨hkeep, _, hp⟩ := hp
 obtain ⟨hp, hc115, h116⟩ := hp
 replace hc115 := hc115.back hb113 hkeep
 replace h116 := h116.back ho114 hkeep (fun h => h)
 clear hkeep hb113 ho114
 obtain ⟨r112, hr⟩ : ∃ r, search_seeker_here state cap1 = r := ⟨_, rfl⟩
 replace hm := hm r112 hr
 rw [hr] at hp
 clear hr
 subst hp
 replace hS := hS.addbox (id := 901) (t := 118) (cs := [I cap1.o.States, I cap1.o.Kinds, I cap1.o.Init, Sl a2 cap1.o.Rows c2, Sl a3 cap1.l c3, Sl a4 cap1.done c4, V (.map (some r5))]) kr hc115
 clear hc115
 refine eM T hS ⟨[(3, Pt 4 0), (4, Pt 5 0), (5, Pt 6 0), (8, Pt 9 0)], [(4, (101, [Pt 901 0])), (5, (3, [I state])), (6, (84, [Sl a1 so c1])), (9, (121, [V (.int .u32 r112.done), I r112.state])), (901, (118, [I cap1.o.States, I cap1.o.Kinds, I cap1.o.Init, Sl a2 cap1.o.Rows c2, Sl a3 cap1.l c3, Sl a4 cap1.done c4, V (.map (some r5))]))]⟩ fun Z a w249 X250 hS hE hr => ?_
 replace hO := hO.m2 hE
 replace h1 := h1.m1 hE
 replace h2 := h2.m1 hE
 replace h3 := h3.m1 hE
 replace h4 := h4.m2 hE
 replace h116 := h116.m2 hE
 replace hP := hP.mv hr kr
 clear hE hr
 refine wseq ?_
 refine drawnSX [4, 5, 6, 9, 901] mixed hS ?_
 intro w117 X118 hS hE hD hH
 replace hO := hO.m2 hE
 replace h1 := h1.m1 hE
 replace h2 := h2.m1 hE
 replace h3 := h3.m1 hE
 replace h4 := h4.m2 hE
 replace h116 := h116.m2 hE
 refine tkb T [0, 4, 1, 2, 3] [4, 5, 6, 9, 901] hS hH #[true, true, true, true, true, false, false] 2 [(3, Pt 4 0), (4, Pt 5 0), (5, Pt 6 0), (8, Pt 9 0), (23, V (.map (some r5))), (24, V (.agg #[.int .u32 r112.done, .int .i64 r112.state]))] fun a hS => ?_
 refine only 5 kr (by rfl) (mlookS kvSearch_spot tI false (zv := .int .i64 0) (z := 0) r112 hS kr kr kr kr Try.underlying116 kokSearch_spot kr rfl h116 ?_)
 intro v119 a hv hS
 replace hv : tI.R _ _ [v119] _ := hv
 cases hv
 refine andH (Hold.of hS (bks := [4, 5, 6, 9, 901]) kr hD) ?_
 intro hH
 refine tkb T [6] [4, 5, 6, 9, 901] hS hH (tts 7) 0 [(3, Pt 4 0), (4, Pt 5 0), (5, Pt 6 0), (8, Pt 9 0), (26, B (decide (((mget cap1.failed r112).getD 0) > 0)))] fun a hS => ?_
 refine drawnDone kr ?_
 replace hS := hS.slb [(3, Pt 4 0), (4, Pt 5 0), (5, Pt 6 0), (8, Pt 9 0), (26, B (decide (((mget cap1.failed r112).getD 0) > 0)))]
 refine wcond hS (b := decide (((mget cap1.failed r112).getD 0) > 0)) kr (fun hb => ?_) fun hb => ?_
 ·replace hm := hm.1 hb
  refine rP T hS ⟨[(6, V (.slice none 0 0)), (7, B false)], [(901, (118, [I cap1.o.States, I cap1.o.Kinds, I cap1.o.Init, Sl a2 cap1.o.Rows c2, Sl a3 cap1.l c3, Sl a4 cap1.done c4, V (.map (some r5))]))]⟩ fun a hS => ?_
  refine wret ?_
  exact finR T hS hO (fun c h => f0of_zero kr h) (fun c h => f0of_else (l := (zAc2 i1 m4 m5)) h) (f1of (zAc2 i1 m4 m5)) rfl (r := [.slice none 0 0, .bool false]) kr (fun X' hM hC => ⟨([], false, cap1), hm, none, 0, a2, c2, a3, c3, a4, c4, rfl, RS.empty _ _ _, h2.m0 hM, h3.m0 hM, (OS.out (f := (f1of (zAc2 i1 m4 m5))) h4 hM hC kr), ((hS.cell (id := 901) (t := 118) (cs := [I cap1.o.States, I cap1.o.Kinds, I cap1.o.Init, Sl a2 cap1.o.Rows c2, Sl a3 cap1.l c3, Sl a4 cap1.done c4, V (.map (some r5))]) kr).out (f := (f1of (zAc2 i1 m4 m5))) hC kr kr (hP.at 0 rfl)), (h116.out (f := (f1of (zAc2 i1 m4 m5))) hM hC kr kr)⟩)
 replace hm := hm.2 hb
 refine wskip ?_
 refine rPb T hS [(3, Pt 4 0), (4, Pt 5 0), (8, Pt 9 0), (9, .f (.func 66) [] [.p 4 0, .p 5 0, .p 6 0])] fun a hS => ?_
 refine wcut (fun a w => ∃ (Z : Nat -> Nat) (X : Nat -> Nat) (y120 : Int) (y121 : Int) (y122 : Int) (y123 : List Api_Row) (y127 : List Api_Oper) (y131 : List Bool) (y135 : List (Search_spot × Int)) (a124 : Option Addr) (c125 : Nat) (a128 : Option Addr) (c129 : Nat) (a132 : Option Addr) (c133 : Nat), VC54_J1 N state Q r112 y120 y121 y122 y123 y127 y131 y135 /\ St Try.f54.ntmps ⟨[(3, Pt 4 0), (8, Pt 9 0)], [(4, (101, [Pt 901 0])), (9, (121, [V (.int .u32 r112.done), I r112.state])), (901, (118, [I y120, I y121, I y122, Sl a124 y123 c125, Sl a128 y127 c129, Sl a132 y131 c133, V (.map (some r5))]))]⟩ Z a w X /\ OldR (f0of (zAc2 i1 m4 m5)) w0 X0 w X /\ Pin [(901, b1)] Z /\ RS tApi_Row w X a124 y123 c125 /\ RS tApi_Oper w X a128 y127 c129 /\ OS tBool 4 w X 2004 a132 y131 c133 /\ OMS kvSearch_spot tI false w X 2005 r5 y135) ?_ ?_
 ·refine drawnSX [4, 5, 6, 9] mixed hS ?_
  intro w178 X179 hS hE hD hH
  replace hO := hO.m2 hE
  replace h1 := h1.m1 hE
  replace h2 := h2.m1 hE
  replace h3 := h3.m1 hE
  replace h4 := h4.m2 hE
  replace h116 := h116.m2 hE
  refine tkb T [0, 4, 8, 9, 15, 1, 5, 10, 2, 6, 11] [4, 5, 6, 9] hS hH #[true, true, true, false, true, true, true, false, true, true, true, true, false, false, false, true] 5 [(3, Pt 4 0), (8, Pt 9 0), (9, .f (.func 66) [] [.p 4 0, .p 5 0, .p 6 0]), (30, Pt 901 0), (34, Pt 901 4), (36, I state), (39, Pt 901 5), (43, I 0)] fun a hS => ?_
  refine drcut (fun a w => ∃ X, St Try.f54.ntmps ⟨[(3, Pt 4 0), (8, Pt 9 0), (9, .f (.func 66) [] [.p 4 0, .p 5 0, .p 6 0]), (31, V (.agg #[.int .i64 cap1.o.States, .int .i64 cap1.o.Kinds, .int .i64 cap1.o.Init, .slice a2 cap1.o.Rows.length c2])), (35, Sl a3 cap1.l c3), (36, I state), (40, Sl a4 cap1.done c4), (43, I 0)], [(4, (101, [Pt 901 0])), (5, (3, [I state])), (6, (84, [Sl a1 so c1])), (9, (121, [V (.int .u32 r112.done), I r112.state])), (901, (118, [I cap1.o.States, I cap1.o.Kinds, I cap1.o.Init, Sl a2 cap1.o.Rows c2, Sl a3 cap1.l c3, Sl a4 cap1.done c4, V (.map (some r5))]))]⟩ Z a w X /\ OldR (f0of (zAc2 i1 m4 m5)) w0 X0 w X /\ M0 w178 X179 w X /\ Hold w178 X179 (filt [4, 5, 6, 9] ⟨[(3, Pt 4 0), (4, Pt 5 0), (8, Pt 9 0), (9, .f (.func 66) [] [.p 4 0, .p 5 0, .p 6 0])], [(4, (101, [Pt 901 0])), (5, (3, [I state])), (6, (84, [Sl a1 so c1])), (9, (121, [V (.int .u32 r112.done), I r112.state])), (901, (118, [I cap1.o.States, I cap1.o.Kinds, I cap1.o.Init, Sl a2 cap1.o.Rows c2, Sl a3 cap1.l c3, Sl a4 cap1.done c4, V (.map (some r5))]))]⟩) Z w /\ RS tApi_Row w X a2 cap1.o.Rows c2 /\ RS tApi_Oper w X a3 cap1.l c3 /\ OS tBool 4 w X 2004 a4 cap1.done c4 /\ RS tApi_Pick w X a1 so c1 /\ OMS kvSearch_spot tI false w X 2005 r5 cap1.failed) #[true, true, true, true, true, true, true, true, true, true, true, true, true, false, false, true] 2 ?_ (fun H => ?_)
  ·rintro a w186 ⟨X185, hS, hO, hD, hH, h180, h181, h182, h183, h184⟩
   obtain ⟨hq, hm⟩ := hm
   refine only 13 kr (by rfl) (call hS kr kr hb69 kr (fun _ _ => rfl) (Ret.unlendO (k69 _ (lend 2004 _) cap1.o cap1.l state cap1.done a2 c2 a3 c3 a4 c4 4193 hq (h180.m0 (M0.lend 2004)) (h181.m0 (M0.lend 2004)) h182.lend)) ?_)
   intro v187 a w188 X189 hE hp hS
   replace hO := hO.m2 hE
   replace hD := hD.ev hE rfl
   replace h180 := h180.m1 hE
   replace h181 := h181.m1 hE
   replace h182 := h182.m2 hE
   replace h183 := h183.m1 hE
   replace h184 := h184.m2 hE
   obtain ⟨_, hback, hp⟩ := hp
   obtain ⟨a191, c192, hp, h193⟩ := hp
   replace h193 := h193.backO hback kr (fun h => h)
   clear hback
   obtain ⟨r190, hr⟩ : ∃ r, search_Next cap1.o cap1.l state cap1.done = r := ⟨_, rfl⟩
   replace hm := hm r190 hr
   rw [hr] at hp h193
   clear hr
   subst hp
   replace hm := hm (h193.sm kr)
   replace hS := hS.slb [(3, Pt 4 0), (8, Pt 9 0), (9, .f (.func 66) [] [.p 4 0, .p 5 0, .p 6 0]), (31, V (.agg #[.int .i64 cap1.o.States, .int .i64 cap1.o.Kinds, .int .i64 cap1.o.Init, .slice a2 cap1.o.Rows.length c2])), (35, Sl a3 cap1.l c3), (36, I state), (40, Sl a4 cap1.done c4), (43, I 0), (41, Sl a191 r190 c192)]
   refine andH (Hold.of hS (bks := [4, 5, 6, 9]) kr hD) ?_
   intro hH
   refine tkb T [14] [4, 5, 6, 9] hS hH (tts 16) 0 [(3, Pt 4 0), (8, Pt 9 0), (9, .f (.func 66) [] [.p 4 0, .p 5 0, .p 6 0]), (41, Sl a191 r190 c192), (42, I (lN r190)), (43, I 0)] fun a hS => ?_
   refine drawnDone kr ?_
   replace hS := hS.slb [(3, Pt 4 0), (8, Pt 9 0), (9, .f (.func 66) [] [.p 4 0, .p 5 0, .p 6 0]), (41, Sl a191 r190 c192), (42, I (lN r190)), (43, I 0)]
   refine wblock ?_
   obtain ⟨I1, μ1, hm0, hm⟩ := hm
   refine wloop (σ := (List Api_Pick) × Int × Int × Int × Int × (List Api_Row) × (List Api_Oper) × (List Bool) × (List (Search_spot × Int))) (fun s a w => ∃ Z X a195 c196 a204 c205 a208 c209 a212 c213, I1 s.1 s.2.1 s.2.2.1 s.2.2.2.1 s.2.2.2.2.1 s.2.2.2.2.2.1 s.2.2.2.2.2.2.1 s.2.2.2.2.2.2.2.1 s.2.2.2.2.2.2.2.2 /\ St Try.f54.ntmps ⟨[(3, Pt 4 0), (8, Pt 9 0), (9, .f (.func 66) [] [.p 4 0, .p 5 0, .p 6 0]), (41, Sl a195 s.1 c196), (42, I (lN r190)), (43, I s.2.1)], [(4, (101, [Pt 901 0])), (5, (3, [I state])), (6, (84, [Sl a1 so c1])), (9, (121, [V (.int .u32 r112.done), I r112.state])), (901, (118, [I s.2.2.1, I s.2.2.2.1, I s.2.2.2.2.1, Sl a204 s.2.2.2.2.2.1 c205, Sl a208 s.2.2.2.2.2.2.1 c209, Sl a212 s.2.2.2.2.2.2.2.1 c213, V (.map (some r5))]))]⟩ Z a w X /\ OldR (f0of (zAc2 i1 m4 m5)) w0 X0 w X /\ Pin [(901, b1)] Z /\ OS tApi_Pick 109 w X 4193 a195 s.1 c196 /\ RS tApi_Pick w X a1 so c1 /\ RS tApi_Row w X a204 s.2.2.2.2.2.1 c205 /\ RS tApi_Oper w X a208 s.2.2.2.2.2.2.1 c209 /\ OS tBool 4 w X 2004 a212 s.2.2.2.2.2.2.2.1 c213 /\ OMS kvSearch_spot tI false w X 2005 r5 s.2.2.2.2.2.2.2.2) (fun s => μ1 s.1 s.2.1 s.2.2.1 s.2.2.2.1 s.2.2.2.2.1 s.2.2.2.2.2.1 s.2.2.2.2.2.2.1 s.2.2.2.2.2.2.2.1 s.2.2.2.2.2.2.2.2) (⟨r190, 0, cap1.o.States, cap1.o.Kinds, cap1.o.Init, cap1.o.Rows, cap1.l, cap1.done, cap1.failed⟩) ?_ ?_
   ·exact ⟨Z, _, a191, c192, a2, c2, a3, c3, a4, c4, hm0, hS.sl _, hO, hP, h193, h183, h180, h181, h182, h184⟩
   rintro ⟨y194, y198, y200, y201, y202, y203, y207, y211, y215⟩ a w246 ⟨Z, X245, a195, c196, a204, c205, a208, c209, a212, c213, hI, hS, hO, hP, h197, h199, h206, h210, h214, h216⟩
   replace hm := hm y194 y198 y200 y201 y202 y203 y207 y211 y215 hI
   clear hI hm0
   refine rPb T hS [(3, Pt 4 0), (8, Pt 9 0), (9, .f (.func 66) [] [.p 4 0, .p 5 0, .p 6 0]), (41, Sl a195 y194 c196), (42, I (lN r190)), (43, I y198), (44, B (decide (y198 < (lN r190))))] fun a hS => ?_
   refine wseq ?_
   refine wcond hS (b := decide (y198 < (lN r190))) kr (fun hb => ?_) fun hb => ?_
   ·replace hm := hm.1 hb
    refine wskip (wseq ?_)
    refine wblock ?_
    refine regO ?_
    obtain ⟨hq220, hm⟩ := hm
    refine op1 (indexX (E := 109) (k := .i64) T hS kr kr kr kr h197 kr kr hq220.1 hq220.2 ?_)
    intro A217 a h219 h218 hS
    refine op1 (loadAX T hS kr kr kr h218 kr kr ?_)
    intro v221 a hv hS
    subst hv
    refine eM T hS ⟨[(3, Pt 4 0), (8, Pt 9 0), (9, .f (.func 66) [] [.p 4 0, .p 5 0, .p 6 0]), (11, Pt 12 0), (41, Sl a195 y194 c196), (42, I (lN r190)), (43, I y198)], [(4, (101, [Pt 901 0])), (5, (3, [I state])), (6, (84, [Sl a1 so c1])), (9, (121, [V (.int .u32 r112.done), I r112.state])), (12, (109, (cK (gi y194 y198)))), (901, (118, [I y200, I y201, I y202, Sl a204 y203 c205, Sl a208 y207 c209, Sl a212 y211 c213, V (.map (some r5))]))]⟩ fun Z a w243 X244 hS hE hr => ?_
    replace hO := hO.m2 hE
    replace h197 := h197.m2 hE
    replace h199 := h199.m1 hE
    replace h206 := h206.m1 hE
    replace h210 := h210.m1 hE
    replace h214 := h214.m2 hE
    replace h216 := h216.m2 hE
    replace hP := hP.mv hr kr
    clear hE hr
    refine regO ?_
    refine oP T hS 2 ⟨[(3, Pt 4 0), (8, Pt 9 0), (9, .f (.func 66) [] [.p 4 0, .p 5 0, .p 6 0]), (41, Sl a195 y194 c196), (42, I (lN r190)), (43, I y198), (48, .f (.func 66) [] [.p 4 0, .p 5 0, .p 6 0]), (49, V (.agg #[.int .i64 ((gi y194 y198).Oper), .int .i64 ((gi y194 y198).Result)]))], [(4, (101, [Pt 901 0])), (5, (3, [I state])), (6, (84, [Sl a1 so c1])), (9, (121, [V (.int .u32 r112.done), I r112.state])), (901, (118, [I y200, I y201, I y202, Sl a204 y203 c205, Sl a208 y207 c209, Sl a212 y211 c213, V (.map (some r5))]))]⟩ fun a hS => ?_
    obtain ⟨hq, hm⟩ := hm
    refine op1 (callCR (fi := []) (cp := [.p 4 0, .p 5 0, .p 6 0]) hS kr kr hb66 kr kr (k66 _ _ (gi y194 y198) (⟨(⟨y200, y201, y202, y203⟩ : Api_Object), y207, y211, y215⟩ : Search_seeker) state so a204 c205 a208 c209 a212 c213 2004 r5 2005 a1 c1 (Z 4) 4 (Z 901) 901 (Z 5) 5 (Z 6) 6 hq.1 hq.2 h206 h210 h214 h216 h199 (hS.cell (id := 4) (t := 101) (cs := [Pt 901 0]) kr) (hS.cell (id := 901) (t := 118) (cs := [I y200, I y201, I y202, Sl a204 y203 c205, Sl a208 y207 c209, Sl a212 y211 c213, V (.map (some r5))]) kr) (hS.cell (id := 5) (t := 3) (cs := [I state]) kr) (hS.cell (id := 6) (t := 84) (cs := [Sl a1 so c1]) kr) ⟨by decide, by decide⟩) ?_)
    intro v222 a w223 X224 hE hp hS
    clear h216
    clear h214
    replace hO := hO.m2 hE
    replace h197 := h197.m2 hE
    replace h199 := h199.m1 hE
    replace h206 := h206.m1 hE
    replace h210 := h210.m1 hE
    obtain ⟨a226, c227, a229, c230, a232, c233, a235, c236, hp, h228, h231, h234, h237, hc239, hc240, h238, hc241, hc242⟩ := hp
    obtain ⟨r225, hr⟩ : ∃ r, search_seeker_first_1 (gi y194 y198) (⟨(⟨y200, y201, y202, y203⟩ : Api_Object), y207, y211, y215⟩ : Search_seeker) state so = r := ⟨_, rfl⟩
    replace hm := hm r225 hr
    rw [hr] at hp h228 h231 h234 h237 hc240 h238
    clear hr
    subst hp
    replace hm := hm (h228.sm kr)
    replace hm := hm (h231.sm kr)
    replace hm := hm (h234.sm kr)
    replace hm := hm (h237.sm kr)
    replace hS := hS.addbox (id := 4) (t := 101) (cs := [Pt 901 0]) kr hc239
    replace hS := hS.addbox (id := 901) (t := 118) (cs := [I r225.2.2.o.States, I r225.2.2.o.Kinds, I r225.2.2.o.Init, Sl a229 r225.2.2.o.Rows c230, Sl a232 r225.2.2.l c233, Sl a235 r225.2.2.done c236, V (.map (some r5))]) kr hc240
    replace hS := hS.addbox (id := 5) (t := 3) (cs := [I state]) kr hc241
    replace hS := hS.addbox (id := 6) (t := 84) (cs := [Sl a1 so c1]) kr hc242
    clear hc239 hc240 hc241 hc242
    refine ePb T hS [(3, Pt 4 0), (8, Pt 9 0), (9, .f (.func 66) [] [.p 4 0, .p 5 0, .p 6 0]), (12, Sl a226 r225.1 c227), (13, B r225.2.1), (41, Sl a195 y194 c196), (42, I (lN r190)), (43, I y198)] fun a hS => ?_
    refine rPb T hS [(3, Pt 4 0), (8, Pt 9 0), (9, .f (.func 66) [] [.p 4 0, .p 5 0, .p 6 0]), (12, Sl a226 r225.1 c227), (41, Sl a195 y194 c196), (42, I (lN r190)), (43, I y198), (53, B r225.2.1)] fun a hS => ?_
    refine wcond hS (b := r225.2.1) kr (fun hb => ?_) fun hb => ?_
    ·replace hm := hm.1 hb
     refine rP T hS ⟨[(6, Sl a226 r225.1 c227), (7, B true)], [(901, (118, [I r225.2.2.o.States, I r225.2.2.o.Kinds, I r225.2.2.o.Init, Sl a229 r225.2.2.o.Rows c230, Sl a232 r225.2.2.l c233, Sl a235 r225.2.2.done c236, V (.map (some r5))]))]⟩ fun a hS => ?_
     refine wret ?_
     exact finR T hS hO (fun c h => f0of_zero kr h) (fun c h => f0of_else (l := (zAc2 i1 m4 m5)) h) (f1of (zAc2 i1 m4 m5)) rfl (r := [.slice a226 r225.1.length c227, .bool true]) kr (fun X' hM hC => ⟨(r225.1, true, r225.2.2), hm, a226, c227, a229, c230, a232, c233, a235, c236, rfl, h228.m0 hM, h231.m0 hM, h234.m0 hM, (OS.out (f := (f1of (zAc2 i1 m4 m5))) h237 hM hC kr), ((hS.cell (id := 901) (t := 118) (cs := [I r225.2.2.o.States, I r225.2.2.o.Kinds, I r225.2.2.o.Init, Sl a229 r225.2.2.o.Rows c230, Sl a232 r225.2.2.l c233, Sl a235 r225.2.2.done c236, V (.map (some r5))]) kr).out (f := (f1of (zAc2 i1 m4 m5))) hC kr kr (hP.at 0 rfl)), (h238.out (f := (f1of (zAc2 i1 m4 m5))) hM hC kr kr)⟩)
    replace hm := hm.2 hb
    refine wskip ?_
    refine region (ePb T hS [(3, Pt 4 0), (8, Pt 9 0), (9, .f (.func 66) [] [.p 4 0, .p 5 0, .p 6 0]), (41, Sl a195 y194 c196), (42, I (lN r190)), (43, I (wR (y198 + 1)))] fun a hS => ?_)
    exact ⟨⟨y194, wR (y198 + 1), r225.2.2.o.States, r225.2.2.o.Kinds, r225.2.2.o.Init, r225.2.2.o.Rows, r225.2.2.l, r225.2.2.done, r225.2.2.failed⟩, ⟨Z, _, a195, c196, a229, c230, a232, c233, a235, c236, hm.1, hS.sl _, hO, hP, h197, h199, h231, h234, h237, h238⟩, hm.2⟩
   replace hm := hm.2 hb
   refine wexit (by rfl) ?_
   exact ⟨Z, _, y200, y201, y202, y203, y207, y211, y215, a204, c205, a208, c209, a212, c213, hm, hS.sl _, hO, hP, h206, h210, h214, h216⟩
  clear hm
  refine anyOf (is := [3, 7, 12]) kr (by decide) ?_
  intro i hi
  rcases mem3 hi with rfl | rfl | rfl
  ·refine oneOp (by rfl) (plain1 T hS kr kr kr (sv := V (.agg #[.int .i64 cap1.o.States, .int .i64 cap1.o.Kinds, .int .i64 cap1.o.Init, .slice a2 cap1.o.Rows.length c2])) kr ?_)
   intro a hS
   refine andH (Hold.of hS (bks := [4, 5, 6, 9]) kr hD) ?_
   intro hH
   refine anyOf (is := [7, 12]) kr (by decide) ?_
   intro i hi
   rcases mem2 hi with rfl | rfl
   ·refine oneOp (by rfl) (plain1 T hS kr kr kr (sv := Sl a3 cap1.l c3) kr ?_)
    intro a hS
    refine andH (Hold.of hS (bks := [4, 5, 6, 9]) kr hD) ?_
    intro hH
    refine only 12 kr (by rfl) (plain1 T hS kr kr kr (sv := Sl a4 cap1.done c4) kr ?_)
    intro a hS
    refine andH (Hold.of hS (bks := [4, 5, 6, 9]) kr hD) ?_
    intro hH
    exact H _ _ ⟨_, hS.sl _, hO, hD, hH, h2, h3, h4, h1, h116⟩
   refine oneOp (by rfl) (plain1 T hS kr kr kr (sv := Sl a4 cap1.done c4) kr ?_)
   intro a hS
   refine andH (Hold.of hS (bks := [4, 5, 6, 9]) kr hD) ?_
   intro hH
   refine only 7 kr (by rfl) (plain1 T hS kr kr kr (sv := Sl a3 cap1.l c3) kr ?_)
   intro a hS
   refine andH (Hold.of hS (bks := [4, 5, 6, 9]) kr hD) ?_
   intro hH
   exact H _ _ ⟨_, hS.sl _, hO, hD, hH, h2, h3, h4, h1, h116⟩
  ·refine oneOp (by rfl) (plain1 T hS kr kr kr (sv := Sl a3 cap1.l c3) kr ?_)
   intro a hS
   refine andH (Hold.of hS (bks := [4, 5, 6, 9]) kr hD) ?_
   intro hH
   refine anyOf (is := [3, 12]) kr (by decide) ?_
   intro i hi
   rcases mem2 hi with rfl | rfl
   ·refine oneOp (by rfl) (plain1 T hS kr kr kr (sv := V (.agg #[.int .i64 cap1.o.States, .int .i64 cap1.o.Kinds, .int .i64 cap1.o.Init, .slice a2 cap1.o.Rows.length c2])) kr ?_)
    intro a hS
    refine andH (Hold.of hS (bks := [4, 5, 6, 9]) kr hD) ?_
    intro hH
    refine only 12 kr (by rfl) (plain1 T hS kr kr kr (sv := Sl a4 cap1.done c4) kr ?_)
    intro a hS
    refine andH (Hold.of hS (bks := [4, 5, 6, 9]) kr hD) ?_
    intro hH
    exact H _ _ ⟨_, hS.sl _, hO, hD, hH, h2, h3, h4, h1, h116⟩
   refine oneOp (by rfl) (plain1 T hS kr kr kr (sv := Sl a4 cap1.done c4) kr ?_)
   intro a hS
   refine andH (Hold.of hS (bks := [4, 5, 6, 9]) kr hD) ?_
   intro hH
   refine only 3 kr (by rfl) (plain1 T hS kr kr kr (sv := V (.agg #[.int .i64 cap1.o.States, .int .i64 cap1.o.Kinds, .int .i64 cap1.o.Init, .slice a2 cap1.o.Rows.length c2])) kr ?_)
   intro a hS
   refine andH (Hold.of hS (bks := [4, 5, 6, 9]) kr hD) ?_
   intro hH
   exact H _ _ ⟨_, hS.sl _, hO, hD, hH, h2, h3, h4, h1, h116⟩
  refine oneOp (by rfl) (plain1 T hS kr kr kr (sv := Sl a4 cap1.done c4) kr ?_)
  intro a hS
  refine andH (Hold.of hS (bks := [4, 5, 6, 9]) kr hD) ?_
  intro hH
  refine anyOf (is := [3, 7]) kr (by decide) ?_
  intro i hi
  rcases mem2 hi with rfl | rfl
  ·refine oneOp (by rfl) (plain1 T hS kr kr kr (sv := V (.agg #[.int .i64 cap1.o.States, .int .i64 cap1.o.Kinds, .int .i64 cap1.o.Init, .slice a2 cap1.o.Rows.length c2])) kr ?_)
   intro a hS
   refine andH (Hold.of hS (bks := [4, 5, 6, 9]) kr hD) ?_
   intro hH
   refine only 7 kr (by rfl) (plain1 T hS kr kr kr (sv := Sl a3 cap1.l c3) kr ?_)
   intro a hS
   refine andH (Hold.of hS (bks := [4, 5, 6, 9]) kr hD) ?_
   intro hH
   exact H _ _ ⟨_, hS.sl _, hO, hD, hH, h2, h3, h4, h1, h116⟩
  refine oneOp (by rfl) (plain1 T hS kr kr kr (sv := Sl a3 cap1.l c3) kr ?_)
  intro a hS
  refine andH (Hold.of hS (bks := [4, 5, 6, 9]) kr hD) ?_
  intro hH
  refine only 3 kr (by rfl) (plain1 T hS kr kr kr (sv := V (.agg #[.int .i64 cap1.o.States, .int .i64 cap1.o.Kinds, .int .i64 cap1.o.Init, .slice a2 cap1.o.Rows.length c2])) kr ?_)
  intro a hS
  refine andH (Hold.of hS (bks := [4, 5, 6, 9]) kr hD) ?_
  intro hH
  exact H _ _ ⟨_, hS.sl _, hO, hD, hH, h2, h3, h4, h1, h116⟩
 rintro a w248 ⟨Z, X247, y120, y121, y122, y123, y127, y131, y135, a124, c125, a128, c129, a132, c133, hm, hS, hO, hP, h126, h130, h134, h136⟩
 unfold VC54_J1 at hm
 refine wcut (fun a w => ∃ (Z : Nat -> Nat) (X : Nat -> Nat) (y139 : List Bool) (y143 : List (Search_spot × Int)) (a140 : Option Addr) (c141 : Nat), VC54_J2 N Q y120 y121 y122 y123 y127 y139 y143 /\ St Try.f54.ntmps ⟨[], [(901, (118, [I y120, I y121, I y122, Sl a124 y123 c125, Sl a128 y127 c129, Sl a140 y139 c141, V (.map (some r5))]))]⟩ Z a w X /\ OldR (f0of (zAc2 i1 m4 m5)) w0 X0 w X /\ Pin [(901, b1)] Z /\ RS tApi_Row w X a124 y123 c125 /\ RS tApi_Oper w X a128 y127 c129 /\ OS tBool 4 w X 2004 a140 y139 c141 /\ OMS kvSearch_spot tI false w X 2005 r5 y143) ?_ ?_
 ·refine regO ?_
  refine oPb T hS 2 [(3, Pt 4 0), (8, Pt 9 0), (56, V (.agg #[.int .u32 r112.done, .int .i64 r112.state])), (57, V (.agg #[.int .u32 0, .int .i64 0]))] fun a hS => ?_
  refine op1 (structEq (op := .neq) (xs := [.int .u32 r112.done, .int .i64 r112.state]) (ys := [.int .u32 0, .int .i64 0]) (r := (r112.done == 0 && (r112.state == 0 && true))) (b := (!(r112.done == 0 && (r112.state == 0 && true)))) T hS kr kr kr kr kr kr kr kr ?_)
  intro a hS
  refine doneK ?_
  refine wcond hS (b := (!(r112.done == 0 && (r112.state == 0 && true)))) kr (fun hb => ?_) fun hb => ?_
  ·replace hm := hm.1 hb
   refine drawnX [4, 9, 901] mixed hS ?_
   intro w145 X146 hS hE hD hH
   replace hO := hO.m2 hE
   replace h126 := h126.m1 hE
   replace h130 := h130.m1 hE
   replace h134 := h134.m2 hE
   replace h136 := h136.m2 hE
   refine tkb T [0, 4, 1, 2, 3] [4, 9, 901] hS hH #[true, true, true, true, true, false, false, false, false, false] 5 [(62, V (.map (some r5))), (63, V (.agg #[.int .u32 r112.done, .int .i64 r112.state]))] fun a hS => ?_
   refine drcut (fun a w => ∃ X b158, St Try.f54.ntmps ⟨[(62, V (.map (some r5))), (65, I (wR (((mget y135 r112).getD 0) + 1))), (67, I ((b158 : Nat) : Int))], [(4, (101, [Pt 901 0])), (9, (121, [V (.int .u32 r112.done), I r112.state])), (901, (118, [I y120, I y121, I y122, Sl a124 y123 c125, Sl a128 y127 c129, Sl a132 y131 c133, V (.map (some r5))]))]⟩ Z a w X /\ OldR (f0of (zAc2 i1 m4 m5)) w0 X0 w X /\ M0 w145 X146 w X /\ Hold w145 X146 (filt [4, 9, 901] ⟨[(3, Pt 4 0), (8, Pt 9 0)], [(4, (101, [Pt 901 0])), (9, (121, [V (.int .u32 r112.done), I r112.state])), (901, (118, [I y120, I y121, I y122, Sl a124 y123 c125, Sl a128 y127 c129, Sl a132 y131 c133, V (.map (some r5))]))]⟩) Z w /\ OME kvSearch_spot tI false w X 2005 r5 y135 r112 0 b158 /\ RS tApi_Row w X a124 y123 c125 /\ RS tApi_Oper w X a128 y127 c129 /\ OS tBool 4 w X 2004 a132 y131 c133) #[true, true, true, true, true, true, true, true, true, false] 1 ?_ (fun H => ?_)
   ·rintro a w173 ⟨X172, b158, hS, hO, hD, hH, h157, h159, h160, h161⟩
    refine only 9 kr (by rfl) (mclS kvSearch_spot tI false (v := I (wR (((mget y135 r112).getD 0) + 1))) (u := wR (((mget y135 r112).getD 0) + 1)) r112 hS kr kr kr kr kokSearch_spot kr h157 (fun _ => rfl) ?_)
    intro a w174 hE h175 hS
    clear h157
    replace hO := hO.m2 hE
    replace hD := hD.ev hE rfl
    replace h159 := h159.m1 hE
    replace h160 := h160.m1 hE
    replace h161 := h161.m2 hE
    refine andH (Hold.of hS (bks := [4, 9, 901]) kr hD) ?_
    intro hH
    refine drawnDone kr ?_
    replace hS := hS.sl ⟨[], [(901, (118, [I y120, I y121, I y122, Sl a124 y123 c125, Sl a128 y127 c129, Sl a132 y131 c133, V (.map (some r5))]))]⟩
    exact ⟨Z, _, y131, mput y135 r112 (wR (((mget y135 r112).getD 0) + 1)), a132, c133, hm, hS.sl _, hO, hP, h159, h160, h161, h175⟩
   clear hm
   refine anyOf (is := [5, 7]) kr (by decide) ?_
   intro i hi
   rcases mem2 hi with rfl | rfl
   ·refine oneOp (by rfl) (mlookS kvSearch_spot tI false (zv := .int .i64 0) (z := 0) r112 hS kr kr kr kr Try.underlying116 kokSearch_spot kr rfl h136 ?_)
    intro v162 a hv hS
    replace hv : tI.R _ _ [v162] _ := hv
    cases hv
    refine andH (Hold.of hS (bks := [4, 9, 901]) kr hD) ?_
    intro hH
    refine tkb T [6] [4, 9, 901] hS hH #[true, true, true, true, true, true, true, false, false, false] 3 [(62, V (.map (some r5))), (63, V (.agg #[.int .u32 r112.done, .int .i64 r112.state])), (65, I (wR (((mget y135 r112).getD 0) + 1)))] fun a hS => ?_
    refine only 7 kr (by rfl) (mentS kvSearch_spot tI false (zv := .int .i64 0) (z := 0) r112 hS kr kr kr kr Try.underlying116 kokSearch_spot kr rfl kr h136 ?_)
    intro v163 b164 a w165 hE h166 hv hS
    clear h136
    replace hv : tI.R _ _ [v163] _ := hv
    cases hv
    replace hO := hO.m2 hE
    replace hD := hD.ev hE rfl
    replace h126 := h126.m1 hE
    replace h130 := h130.m1 hE
    replace h134 := h134.m2 hE
    refine andH (Hold.of hS (bks := [4, 9, 901]) kr hD) ?_
    intro hH
    refine tkb T [8] [4, 9, 901] hS hH #[true, true, true, true, true, true, true, true, true, false] 1 [(62, V (.map (some r5))), (65, I (wR (((mget y135 r112).getD 0) + 1))), (67, I ((b164 : Nat) : Int))] fun a hS => ?_
    exact H _ _ ⟨_, b164, hS.sl _, hO, hD, hH, h166, h126, h130, h134⟩
   refine oneOp (by rfl) (mentS kvSearch_spot tI false (zv := .int .i64 0) (z := 0) r112 hS kr kr kr kr Try.underlying116 kokSearch_spot kr rfl kr h136 ?_)
   intro v167 b168 a w169 hE h170 hv hS
   clear h136
   replace hv : tI.R _ _ [v167] _ := hv
   cases hv
   replace hO := hO.m2 hE
   replace hD := hD.ev hE rfl
   replace h126 := h126.m1 hE
   replace h130 := h130.m1 hE
   replace h134 := h134.m2 hE
   refine andH (Hold.of hS (bks := [4, 9, 901]) kr hD) ?_
   intro hH
   refine tkb T [8] [4, 9, 901] hS hH #[true, true, true, true, true, false, false, true, true, false] 3 [(62, V (.map (some r5))), (63, V (.agg #[.int .u32 r112.done, .int .i64 r112.state])), (67, I ((b168 : Nat) : Int))] fun a hS => ?_
   refine only 5 kr (by rfl) (mlookE kvSearch_spot tI false r112 hS kr kr kr kr Try.underlying116 kokSearch_spot h170 ?_)
   intro v171 a hv hS
   replace hv : tI.R _ _ [v171] _ := hv
   cases hv
   refine andH (Hold.of hS (bks := [4, 9, 901]) kr hD) ?_
   intro hH
   refine tkb T [6] [4, 9, 901] hS hH #[true, true, true, true, true, true, true, true, true, false] 1 [(62, V (.map (some r5))), (65, I (wR (((mget y135 r112).getD 0) + 1))), (67, I ((b168 : Nat) : Int))] fun a hS => ?_
   exact H _ _ ⟨_, b168, hS.sl _, hO, hD, hH, h170, h126, h130, h134⟩
  replace hm := hm.2 hb
  refine wskip ?_
  exact ⟨Z, _, y131, y135, a132, c133, hm, hS.sl _, hO, hP, h126, h130, h134, h136⟩
 rintro a w177 ⟨Z, X176, y139, y143, a140, c141, hm, hS, hO, hP, h137, h138, h142, h144⟩
 unfold VC54_J2 at hm
 refine rPb T hS [(6, V (.slice none 0 0)), (7, B false)] fun a hS => ?_
 refine wret ?_
 exact finR T hS hO (fun c h => f0of_zero kr h) (fun c h => f0of_else (l := (zAc2 i1 m4 m5)) h) (f1of (zAc2 i1 m4 m5)) rfl (r := [.slice none 0 0, .bool false]) kr (fun X' hM hC => ⟨([], false, (⟨(⟨y120, y121, y122, y123⟩ : Api_Object), y127, y139, y143⟩ : Search_seeker)), hm, none, 0, a124, c125, a128, c129, a140, c141, rfl, RS.empty _ _ _, h137.m0 hM, h138.m0 hM, (OS.out (f := (f1of (zAc2 i1 m4 m5))) h142 hM hC kr), ((hS.cell (id := 901) (t := 118) (cs := [I y120, I y121, I y122, Sl a124 y123 c125, Sl a128 y127 c129, Sl a140 y139 c141, V (.map (some r5))]) kr).out (f := (f1of (zAc2 i1 m4 m5))) hC kr kr (hP.at 0 rfl)), (h144.out (f := (f1of (zAc2 i1 m4 m5))) hM hC kr kr)⟩)
theorem C54 (N : Nat) (k64 : S64) (k65 : S65) (k66 : S66N N) (k69 : S69) (v : ∀ (state : Int) (so : List Api_Pick) (cap1 : Search_seeker), preFi state so cap1 -> mFirst state so cap1 < N + 1 -> VC54 N state so cap1 (fun r => r = search_seeker_first state so cap1)) : S54N (N + 1) := by
 intro w X state so cap1 a1 c1 a2 c2 a3 c3 a4 c4 m4 r5 m5  b1 i1 hp hms h1 h2 h3 h4 h5 hc1 hA
 refine (W54 N k64 k65 k66 k69 w X state so cap1 a1 c1 a2 c2 a3 c3 a4 c4 m4 r5 m5  b1 i1 _ (v state so cap1 hp hms) h1 h2 h3 h4 h5 hc1 hA).mono ?_
 rintro _ _ _ _ ⟨r, rfl, h⟩
 exact h
theorem W53 (w0) (X0) (o_ : Api_Object) (l_ : List Api_Oper) (a1) (c1) (a2) (c2) (col1) (col2) (col3) (Q : Search_seeker -> Prop) (hm : VC53 o_ l_ Q) (h1 : RS tApi_Row w0 X0 a1 o_.Rows c1) (h2 : RS tApi_Oper w0 X0 a2 l_ c2) :
  Ret Try.prog 53 #[.agg #[.int .i64 o_.States, .int .i64 o_.Kinds, .int .i64 o_.Init, .slice a1 o_.Rows.length c1], .slice a2 l_.length c2] xnone w0 X0 (fun w X' v => ∃ r, Q r /\ ∃ ra1 rc1 ra2 rc2 ra3 rc3 rr4 rb1, v = .pointer (some ⟨rb1, 0, none⟩) /\ RS tApi_Row w X' ra1 r.o.Rows rc1 /\ RS tApi_Oper w X' ra2 r.l rc2 /\ OS tBool 4 w X' col1 ra3 r.done rc3 /\ Cell w X' rb1 col3 118 [.int .i64 r.o.States, .int .i64 r.o.Kinds, .int .i64 r.o.Init, .slice ra1 r.o.Rows.length rc1, .slice ra2 r.l.length rc2, .slice ra3 r.done.length rc3, .map (some rr4)] /\ OMS kvSearch_spot tI false w X' col2 rr4 r.failed) := by
 unfold VC53 at hm
 replace hm := hm (h1.sm kr)
 replace hm := hm (h2.sm kr)
 refine enter Try.func53 rfl (vals := [.agg #[.int .i64 o_.States, .int .i64 o_.Kinds, .int .i64 o_.Init, .slice a1 o_.Rows.length c1], .slice a2 l_.length c2]) kr ?_
 intro Z a hS hO hM
 replace h1 := h1.m0 hM
 replace h2 := h2.m0 hM
 refine rM T hS ⟨[(1, Sl a2 l_ c2), (2, Pt 3 0)], [(3, (24, (cO o_ a1 c1)))]⟩ fun Z a w147 X148 hS hE hr => ?_
 replace hO := hO.m2 hE
 replace h1 := h1.m1 hE
 replace h2 := h2.m1 hE
 clear hE hr
 refine drawnSX [3] mixed hS ?_
 intro w101 X102 hS hE hD hH
 replace hO := hO.m2 hE
 replace h1 := h1.m1 hE
 replace h2 := h2.m1 hE
 refine tkb T [0, 1, 2, 3] [3] hS hH #[true, true, true, true, false, false, false, false, false] 5 [(5, V (.agg #[.int .i64 o_.States, .int .i64 o_.Kinds, .int .i64 o_.Init, .slice a1 o_.Rows.length c1])), (6, Sl a2 l_ c2), (8, I (lN l_))] fun a hS => ?_
 obtain ⟨hgq4, hm⟩ := hm
 refine drcut (fun a w => ∃ X a122 c123 r124, St Try.f53.ntmps ⟨[(11, V (.agg #[.int .i64 o_.States, .int .i64 o_.Kinds, .int .i64 o_.Init, .slice a1 o_.Rows.length c1, .slice a2 l_.length c2, .slice a122 (List.replicate (lN l_).toNat (false : Bool)).length c123, .map (some r124)]))], [(3, (24, (cO o_ a1 c1)))]⟩ Z a w X /\ Old w0 X0 w X /\ M0 w101 X102 w X /\ Hold w101 X102 (filt [3] ⟨[(1, Sl a2 l_ c2), (2, Pt 3 0)], [(3, (24, (cO o_ a1 c1)))]⟩) Z w /\ RS tApi_Row w X a1 o_.Rows c1 /\ RS tApi_Oper w X a2 l_ c2 /\ OS tBool 4 w X 1010 a122 (List.replicate (lN l_).toNat (false : Bool)) c123 /\ OMS kvSearch_spot tI false w X 1011 r124 ([] : List (Search_spot × Int))) #[true, true, true, true, true, true, true, false, false] 2 ?_ (fun H => ?_)
 ·rintro a w143 ⟨X142, a122, c123, r124, hS, hO, hD, hH, h119, h120, h121, h125⟩
  clear hgq4
  replace hS := hS.sl ⟨[(11, V (.agg #[.int .i64 o_.States, .int .i64 o_.Kinds, .int .i64 o_.Init, .slice a1 o_.Rows.length c1, .slice a2 l_.length c2, .slice a122 (List.replicate (lN l_).toNat (false : Bool)).length c123, .map (some r124)]))], [(3, (24, (cO o_ a1 c1)))]⟩
  refine only 7 kr (by rfl) (boxB1 (cs := #[.int .i64 o_.States, .int .i64 o_.Kinds, .int .i64 o_.Init, .slice a1 o_.Rows.length c1, .slice a2 l_.length c2, .slice a122 (List.replicate (lN l_).toNat (false : Bool)).length c123, .map (some r124)]) hS kr kr kr kr (sy' := ⟨[(12, Pt 13 0), (11, V (.agg #[.int .i64 o_.States, .int .i64 o_.Kinds, .int .i64 o_.Init, .slice a1 o_.Rows.length c1, .slice a2 l_.length c2, .slice a122 (List.replicate (lN l_).toNat (false : Bool)).length c123, .map (some r124)]))], [(13, (118, [I o_.States, I o_.Kinds, I o_.Init, Sl a1 o_.Rows c1, Sl a2 l_ c2, Sl a122 (List.replicate (lN l_).toNat (false : Bool)) c123, V (.map (some r124))])), (3, (24, (cO o_ a1 c1)))]⟩) kr ?_)
  intro Z a w144 X145 hS hE hr146
  replace hO := hO.m2 hE
  replace hD := hD.ev hE rfl
  replace h119 := h119.m1 hE
  replace h120 := h120.m1 hE
  replace h121 := h121.m2 hE
  replace h125 := h125.m2 hE
  replace hS := hS.sl ⟨[(11, V (.agg #[.int .i64 o_.States, .int .i64 o_.Kinds, .int .i64 o_.Init, .slice a1 o_.Rows.length c1, .slice a2 l_.length c2, .slice a122 (List.replicate (lN l_).toNat (false : Bool)).length c123, .map (some r124)])), (12, Pt 13 0)], [(3, (24, (cO o_ a1 c1))), (13, (118, [I o_.States, I o_.Kinds, I o_.Init, Sl a1 o_.Rows c1, Sl a2 l_ c2, Sl a122 (List.replicate (lN l_).toNat (false : Bool)) c123, V (.map (some r124))]))]⟩
  refine andH ((Hold.of hS (bks := [3]) kr hD).rho hr146 kr) ?_
  intro hH
  refine takeZ T hr146 kr [8] [3] [4] hS kr kr kr hH (listed' := #[true, true, true, true, true, true, true, true, true]) (fuel := 0) (sy' := ⟨[(4, Pt 13 0)], [(3, (24, (cO o_ a1 c1))), (13, (118, [I o_.States, I o_.Kinds, I o_.Init, Sl a1 o_.Rows c1, Sl a2 l_ c2, Sl a122 (List.replicate (lN l_).toNat (false : Bool)) c123, V (.map (some r124))]))]⟩) kr (by rfl) ?_
  intro a hS
  refine drawnDone kr ?_
  replace hS := hS.sl ⟨[(4, Pt 13 0)], [(13, (118, [I o_.States, I o_.Kinds, I o_.Init, Sl a1 o_.Rows c1, Sl a2 l_ c2, Sl a122 (List.replicate (lN l_).toNat (false : Bool)) c123, V (.map (some r124))]))]⟩
  refine wret ?_
  exact fin T hS hO (zAc0 col3 col2 col1) rfl (r := [.pointer (some ⟨Z 13, 0, none⟩)]) kr (fun X' hM hC => ⟨(⟨o_, l_, List.replicate (lN l_).toNat (false : Bool), ([] : List (Search_spot × Int))⟩ : Search_seeker), hm, a1, c1, a2, c2, a122, c123, r124, (Z 13), rfl, h119.m0 hM, h120.m0 hM, (OS.out (f := (zAc0 col3 col2 col1)) h121 hM hC kr), ((hS.cell (id := 13) (t := 118) (cs := [I o_.States, I o_.Kinds, I o_.Init, Sl a1 o_.Rows c1, Sl a2 l_ c2, Sl a122 (List.replicate (lN l_).toNat (false : Bool)) c123, V (.map (some r124))]) kr).out (f := (zAc0 col3 col2 col1)) hC kr kr rfl), (h125.out (f := (zAc0 col3 col2 col1)) hM hC kr kr)⟩)
 clear hm
 refine anyOf (is := [4, 5]) kr (by decide) ?_
 intro i hi
 rcases mem2 hi with rfl | rfl
 ·have hq := hgq4
  refine oneOp (by rfl) (make (E := 4) (kl := .i64) (kc := .i64) (col := 1010) (T := tBool) T false hS kr kr kr kr kr kr hq.1 hq.2.1 (by have := hq.2.2; have e_ : ((tBool.bytes : Nat) : Int) = 1 := rfl; rw [e_]; omega) (by have := hq.2.2; omega) (fun _ _ => rfl) ?_)
  intro b126 a w127 X128 hE h129 hN hS
  clear hq hN
  replace hO := hO.m2 hE
  replace hD := hD.ev hE rfl
  replace h1 := h1.m1 hE
  replace h2 := h2.m1 hE
  replace hS := hS.conv (t := 9) (y := .slice (some ⟨b126, 0, none⟩) (List.replicate (lN l_).toNat (false : Bool)).length (lN l_).toNat) kr (by rw [List.length_replicate])
  refine andH (Hold.of hS (bks := [3]) kr hD) ?_
  intro hH
  refine only 5 kr (by rfl) (mkmapS kvSearch_spot tI false 1011 hS kr kr ?_)
  intro r130 a w131 X132 hE h133 hS
  replace hO := hO.m2 hE
  replace hD := hD.ev hE rfl
  replace h1 := h1.m1 hE
  replace h2 := h2.m1 hE
  replace h129 := h129.m2 hE
  refine andH (Hold.of hS (bks := [3]) kr hD) ?_
  intro hH
  refine tkb T [6] [3] hS hH #[true, true, true, true, true, true, true, false, false] 2 [(11, V (.agg #[.int .i64 o_.States, .int .i64 o_.Kinds, .int .i64 o_.Init, .slice a1 o_.Rows.length c1, .slice a2 l_.length c2, .slice (some ⟨b126, 0, none⟩) (List.replicate (lN l_).toNat (false : Bool)).length (lN l_).toNat, .map (some r130)]))] fun a hS => ?_
  exact H _ _ ⟨_, (some ⟨b126, 0, none⟩), (lN l_).toNat, r130, hS.sl _, hO, hD, hH, h1, h2, h129, h133⟩
 refine oneOp (by rfl) (mkmapS kvSearch_spot tI false 1011 hS kr kr ?_)
 intro r134 a w135 X136 hE h137 hS
 replace hO := hO.m2 hE
 replace hD := hD.ev hE rfl
 replace h1 := h1.m1 hE
 replace h2 := h2.m1 hE
 refine andH (Hold.of hS (bks := [3]) kr hD) ?_
 intro hH
 have hq := hgq4
 refine only 4 kr (by rfl) (make (E := 4) (kl := .i64) (kc := .i64) (col := 1010) (T := tBool) T false hS kr kr kr kr kr kr hq.1 hq.2.1 (by have := hq.2.2; have e_ : ((tBool.bytes : Nat) : Int) = 1 := rfl; rw [e_]; omega) (by have := hq.2.2; omega) (fun _ _ => rfl) ?_)
 intro b138 a w139 X140 hE h141 hN hS
 clear hq hN
 replace hO := hO.m2 hE
 replace hD := hD.ev hE rfl
 replace h1 := h1.m1 hE
 replace h2 := h2.m1 hE
 replace h137 := h137.m2 hE
 replace hS := hS.conv (t := 9) (y := .slice (some ⟨b138, 0, none⟩) (List.replicate (lN l_).toNat (false : Bool)).length (lN l_).toNat) kr (by rw [List.length_replicate])
 refine andH (Hold.of hS (bks := [3]) kr hD) ?_
 intro hH
 refine tkb T [6] [3] hS hH #[true, true, true, true, true, true, true, false, false] 2 [(11, V (.agg #[.int .i64 o_.States, .int .i64 o_.Kinds, .int .i64 o_.Init, .slice a1 o_.Rows.length c1, .slice a2 l_.length c2, .slice (some ⟨b138, 0, none⟩) (List.replicate (lN l_).toNat (false : Bool)).length (lN l_).toNat, .map (some r134)]))] fun a hS => ?_
 exact H _ _ ⟨_, (some ⟨b138, 0, none⟩), (lN l_).toNat, r134, hS.sl _, hO, hD, hH, h1, h2, h141, h137⟩
theorem C53 (v : ∀ (o_ : Api_Object) (l_ : List Api_Oper), preBg o_ l_ -> VC53 o_ l_ (fun r => r = search_begin o_ l_)) : S53 := by
 intro w X o_ l_ a1 c1 a2 c2 col1 col2 col3  hp h1 h2
 refine (W53 w X o_ l_ a1 c1 a2 c2 col1 col2 col3  _ (v o_ l_ hp) h1 h2).mono ?_
 rintro _ _ _ _ ⟨r, rfl, h⟩
 exact h
theorem W40 (k52 : S52) (k53 : S53) (k54 : S54) (k55 : S55) (w0) (X0) (o_ : Api_Object) (l_ : List Api_Oper) (a1) (c1) (a2) (c2) (Q : (List Api_Pick) × Int -> Prop) (hm : VC40 o_ l_ Q) (h1 : RS tApi_Row w0 X0 a1 o_.Rows c1) (h2 : RS tApi_Oper w0 X0 a2 l_ c2) :
  Ret Try.prog 40 #[.agg #[.int .i64 o_.States, .int .i64 o_.Kinds, .int .i64 o_.Init, .slice a1 o_.Rows.length c1], .slice a2 l_.length c2] xnone w0 X0 (fun w X' v => ∃ r, Q r /\ ∃ ra1 rc1, v = .tuple #[.slice ra1 r.1.length rc1, .int .i64 r.2] /\ RS tApi_Pick w X' ra1 r.1 rc1) := by
 unfold VC40 at hm
 replace hm := hm (h1.sm kr)
 replace hm := hm (h2.sm kr)
 refine enter Try.func40 rfl (vals := [.agg #[.int .i64 o_.States, .int .i64 o_.Kinds, .int .i64 o_.Init, .slice a1 o_.Rows.length c1], .slice a2 l_.length c2]) kr ?_
 intro Z a hS hO hM
 replace h1 := h1.m0 hM
 replace h2 := h2.m0 hM
 refine rM T hS ⟨[(1, Sl a2 l_ c2), (2, Pt 3 0)], [(3, (24, (cO o_ a1 c1)))]⟩ fun Z a w151 X152 hS hE hr => ?_
 replace hO := hO.m2 hE
 replace h1 := h1.m1 hE
 replace h2 := h2.m1 hE
 clear hE hr
 refine wseq ?_
 refine regO ?_
 refine oPb T hS 2 [(1, Sl a2 l_ c2), (2, Pt 3 0), (9, V (.agg #[.int .i64 o_.States, .int .i64 o_.Kinds, .int .i64 o_.Init, .slice a1 o_.Rows.length c1])), (10, Sl a2 l_ c2)] fun a hS => ?_
 obtain ⟨hq, hm⟩ := hm
 refine op1 (call hS kr kr hb52 kr (fun _ _ => rfl) (k52 _ _ o_ l_ 20 a1 c1 a2 c2 hq h1 h2) ?_)
 intro v101 a w102 X103 hE hp hS
 replace hO := hO.m2 hE
 replace h1 := h1.m1 hE
 replace h2 := h2.m1 hE
 obtain ⟨r104, hr⟩ : ∃ r, search_check o_ l_ 20 = r := ⟨_, rfl⟩
 replace hm := hm r104 hr
 rw [hr] at hp
 clear hr
 subst hp
 refine ePb T hS [(1, Sl a2 l_ c2), (2, Pt 3 0), (6, I r104)] fun a hS => ?_
 refine rPb T hS [(1, Sl a2 l_ c2), (2, Pt 3 0), (6, I r104), (13, B (r104 != 0))] fun a hS => ?_
 refine wcond hS (b := (r104 != 0)) kr (fun hb => ?_) fun hb => ?_
 ·replace hm := hm.1 hb
  refine rP T hS ⟨[(4, V (.slice none 0 0)), (5, I r104)], []⟩ fun a hS => ?_
  refine wret ?_
  exact fin T hS hO (fun c => c) rfl (r := [.slice none 0 0, .int .i64 r104]) kr (fun X' hM hC => ⟨([], r104), hm, none, 0, rfl, RS.empty _ _ _⟩)
 replace hm := hm.2 hb
 refine wskip ?_
 refine drawnSX [3] mixed hS ?_
 intro w105 X106 hS hE hD hH
 replace hO := hO.m2 hE
 replace h1 := h1.m1 hE
 replace h2 := h2.m1 hE
 refine tkb T [0, 1, 3, 4] [3] hS hH #[true, true, false, true, true, false, false, false, false, false, false] 7 [(1, Sl a2 l_ c2), (2, Pt 3 0), (16, V (.agg #[.int .i64 o_.States, .int .i64 o_.Kinds, .int .i64 o_.Init, .slice a1 o_.Rows.length c1])), (17, Sl a2 l_ c2), (20, I o_.Init)] fun a hS => ?_
 obtain ⟨hq, hm⟩ := hm
 refine only 2 kr (by rfl) (call hS kr kr hb53 kr (fun _ _ => rfl) (k53 _ _ o_ l_ a1 c1 a2 c2 4119 2121 702 hq h1 h2) ?_)
 intro v107 a w108 X109 hE hp hS
 replace hO := hO.m2 hE
 replace hD := hD.ev hE rfl
 replace h1 := h1.m1 hE
 replace h2 := h2.m1 hE
 obtain ⟨a111, c112, a114, c115, a117, c118, r121, b122, hp, h113, h116, h119, hc123, h120⟩ := hp
 obtain ⟨r110, hr⟩ : ∃ r, search_begin o_ l_ = r := ⟨_, rfl⟩
 replace hm := hm r110 hr
 rw [hr] at h113 h116 h119 hc123 h120
 clear hr
 subst hp
 replace hm := hm (h113.sm kr)
 replace hm := hm (h116.sm kr)
 replace hm := hm (h119.sm kr)
 replace hS := hS.newbox (id := 702) (t := 118) (cs := [I r110.o.States, I r110.o.Kinds, I r110.o.Init, Sl a111 r110.o.Rows c112, Sl a114 r110.l c115, Sl a117 r110.done c118, V (.map (some r121))]) kr kr hc123 rfl
 replace hS := hS.convS (t := 18) (x := V (.pointer (some ⟨b122, 0, none⟩))) (y := Pt 702 0) kr rfl
 have hr124 : ∀ id, id ≠ 702 -> (upd Z 702 b122) id = Z id := fun id h => upd_ne _ h
 generalize (upd Z 702 b122) = Z at hS hr124
 clear hc123
 replace hS := hS.sl ⟨[(1, Sl a2 l_ c2), (2, Pt 3 0), (16, V (.agg #[.int .i64 o_.States, .int .i64 o_.Kinds, .int .i64 o_.Init, .slice a1 o_.Rows.length c1])), (17, Sl a2 l_ c2), (20, I o_.Init), (18, Pt 702 0)], [(3, (24, (cO o_ a1 c1))), (702, (118, [I r110.o.States, I r110.o.Kinds, I r110.o.Init, Sl a111 r110.o.Rows c112, Sl a114 r110.l c115, Sl a117 r110.done c118, V (.map (some r121))]))]⟩
 refine andH ((Hold.of hS (bks := [3]) kr hD).rho hr124 kr) ?_
 intro hH
 obtain ⟨hq, hm⟩ := hm
 refine only 5 kr (by rfl) (callR hS kr kr hb54 kr (k54 _ _ o_.Init [] r110 none 0 a111 c112 a114 c115 a117 c118 4119 r121 2121 (Z 702) 702 hq (RS.empty _ _ _) h113 h116 h119 h120 (hS.cell (id := 702) (t := 118) (cs := [I r110.o.States, I r110.o.Kinds, I r110.o.Init, Sl a111 r110.o.Rows c112, Sl a114 r110.l c115, Sl a117 r110.done c118, V (.map (some r121))]) kr) ⟨by decide, by decide⟩) ?_)
 intro v125 a w126 X127 hE hp hS
 clear h120
 clear h119
 replace hO := hO.m2 hE
 replace hD := hD.ev hE rfl
 replace h1 := h1.m1 hE
 replace h2 := h2.m1 hE
 replace h113 := h113.m1 hE
 replace h116 := h116.m1 hE
 obtain ⟨a129, c130, a132, c133, a135, c136, a138, c139, hp, h131, h134, h137, h140, hc142, h141⟩ := hp
 obtain ⟨r128, hr⟩ : ∃ r, search_seeker_first o_.Init [] r110 = r := ⟨_, rfl⟩
 replace hm := hm r128 hr
 rw [hr] at hp h131 h134 h137 h140 hc142 h141
 clear hr
 subst hp
 replace hm := hm (h131.sm kr)
 replace hm := hm (h134.sm kr)
 replace hm := hm (h137.sm kr)
 replace hm := hm (h140.sm kr)
 replace hS := hS.addbox (id := 702) (t := 118) (cs := [I r128.2.2.o.States, I r128.2.2.o.Kinds, I r128.2.2.o.Init, Sl a132 r128.2.2.o.Rows c133, Sl a135 r128.2.2.l c136, Sl a138 r128.2.2.done c139, V (.map (some r121))]) kr hc142
 clear hc142
 replace hS := hS.sl ⟨[(1, Sl a2 l_ c2), (2, Pt 3 0), (16, V (.agg #[.int .i64 o_.States, .int .i64 o_.Kinds, .int .i64 o_.Init, .slice a1 o_.Rows.length c1])), (17, Sl a2 l_ c2), (20, I o_.Init), (18, Pt 702 0), (21, V (.tuple #[.slice a129 r128.1.length c130, .bool r128.2.1]))], [(3, (24, (cO o_ a1 c1))), (702, (118, [I r128.2.2.o.States, I r128.2.2.o.Kinds, I r128.2.2.o.Init, Sl a132 r128.2.2.o.Rows c133, Sl a135 r128.2.2.l c136, Sl a138 r128.2.2.done c139, V (.map (some r121))]))]⟩
 refine andH ((Hold.of hS (bks := [3]) kr hD).rho hr124 kr) ?_
 intro hH
 refine takeZ T hr124 kr [6, 7, 8, 9, 10] [3] [1, 2, 7, 8] hS kr kr kr hH (listed' := #[true, true, true, true, true, true, true, true, true, true, true]) (fuel := 0) (sy' := ⟨[(1, Sl a2 l_ c2), (2, Pt 3 0), (7, Sl a129 r128.1 c130), (8, B r128.2.1)], [(3, (24, (cO o_ a1 c1))), (702, (118, [I r128.2.2.o.States, I r128.2.2.o.Kinds, I r128.2.2.o.Init, Sl a132 r128.2.2.o.Rows c133, Sl a135 r128.2.2.l c136, Sl a138 r128.2.2.done c139, V (.map (some r121))]))]⟩) kr (by rfl) ?_
 intro a hS
 refine drawnDone kr ?_
 replace hS := hS.sl ⟨[(1, Sl a2 l_ c2), (2, Pt 3 0), (7, Sl a129 r128.1 c130), (8, B r128.2.1)], [(3, (24, (cO o_ a1 c1)))]⟩
 refine wseq ?_
 refine wcut (fun a w => ∃ (Z : Nat -> Nat) (X : Nat -> Nat) (y144 : Bool), VC40_J1 Q r128 y144 /\ St Try.f40.ntmps ⟨[(7, Sl a129 r128.1 c130), (32, B y144)], []⟩ Z a w X /\ Old w0 X0 w X /\ RS tApi_Pick w X a129 r128.1 c130) ?_ ?_
 ·refine region ?_
  refine oPb T hS 3 [(1, Sl a2 l_ c2), (2, Pt 3 0), (7, Sl a129 r128.1 c130), (26, B (!r128.2.1))] fun a hS => ?_
  rcases bft (!r128.2.1) with hb | hb
  ·replace hS := hS.lit (t := 26) kr hb
   replace hm := hm.1 hb
   refine eP T hS ⟨[(7, Sl a129 r128.1 c130), (32, B true)], []⟩ fun a hS => ?_
   exact ⟨Z, _, true, hm, hS.sl _, hO, h131⟩
  replace hS := hS.lit (t := 26) kr hb
  replace hm := hm.2 hb
  refine oP T hS 3 ⟨[(7, Sl a129 r128.1 c130), (26, B false), (27, V (.agg #[.int .i64 o_.States, .int .i64 o_.Kinds, .int .i64 o_.Init, .slice a1 o_.Rows.length c1])), (28, Sl a2 l_ c2), (29, Sl a129 r128.1 c130)], []⟩ fun a hS => ?_
  obtain ⟨hq, hm⟩ := hm
  refine op1 (call hS kr kr hb55 kr (fun _ _ => rfl) (k55 _ _ o_ l_ r128.1 a1 c1 a2 c2 a129 c130 hq h1 h2 h131) ?_)
  intro v145 a w146 X147 hE hp hS
  replace hO := hO.m2 hE
  replace h1 := h1.m1 hE
  replace h2 := h2.m1 hE
  replace h131 := h131.m1 hE
  obtain ⟨r148, hr⟩ : ∃ r, witness_Is o_ l_ r128.1 = r := ⟨_, rfl⟩
  replace hm := hm r148 hr
  rw [hr] at hp
  clear hr
  subst hp
  refine ePb T hS [(7, Sl a129 r128.1 c130), (32, B (!r148))] fun a hS => ?_
  exact ⟨Z, _, (!r148), hm, hS.sl _, hO, h131⟩
 rintro a w150 ⟨Z, X149, y144, hm, hS, hO, h143⟩
 unfold VC40_J1 at hm
 refine wcond hS (b := y144) kr (fun hb => ?_) fun hb => ?_
 ·replace hm := hm.1 hb
  refine rPb T hS [(4, V (.slice none 0 0)), (5, I 41)] fun a hS => ?_
  refine wret ?_
  exact fin T hS hO (fun c => c) rfl (r := [.slice none 0 0, .int .i64 41]) kr (fun X' hM hC => ⟨([], 41), hm, none, 0, rfl, RS.empty _ _ _⟩)
 replace hm := hm.2 hb
 refine wskip ?_
 refine rPb T hS [(4, Sl a129 r128.1 c130), (5, I 0)] fun a hS => ?_
 refine wret ?_
 exact fin T hS hO (fun c => c) rfl (r := [.slice a129 r128.1.length c130, .int .i64 0]) kr (fun X' hM hC => ⟨(r128.1, 0), hm, a129, c130, rfl, h143.m0 hM⟩)
theorem C40 (k52 : S52) (k53 : S53) (k54 : S54) (k55 : S55) (v : ∀ (o_ : Api_Object) (l_ : List Api_Oper), preSe o_ l_ -> VC40 o_ l_ (fun r => r = search_Search o_ l_)) : S40 := by
 intro w X o_ l_ a1 c1 a2 c2   hp h1 h2
 refine (W40 k52 k53 k54 k55 w X o_ l_ a1 c1 a2 c2   _ (v o_ l_ hp) h1 h2).mono ?_
 rintro _ _ _ _ ⟨r, rfl, h⟩
 exact h
theorem W25 (k40 : S40) (w0) (X0) (o_ : Api_Object) (l_ : List Api_Oper) (a1) (c1) (a2) (c2) (Q : Bool × Int -> Prop) (hm : VC25 o_ l_ Q) (h1 : RS tApi_Row w0 X0 a1 o_.Rows c1) (h2 : RS tApi_Oper w0 X0 a2 l_ c2) :
  Ret Try.prog 25 #[.agg #[.int .i64 o_.States, .int .i64 o_.Kinds, .int .i64 o_.Init, .slice a1 o_.Rows.length c1], .slice a2 l_.length c2] xnone w0 X0 (fun w X' v => ∃ r, Q r /\ v = .tuple #[.bool r.1, .int .i64 r.2]) := by
 unfold VC25 at hm
 replace hm := hm (h1.sm kr)
 replace hm := hm (h2.sm kr)
 refine enter Try.func25 rfl (vals := [.agg #[.int .i64 o_.States, .int .i64 o_.Kinds, .int .i64 o_.Init, .slice a1 o_.Rows.length c1], .slice a2 l_.length c2]) kr ?_
 intro Z a hS hO hM
 replace h1 := h1.m0 hM
 replace h2 := h2.m0 hM
 refine rM T hS ⟨[(1, Sl a2 l_ c2), (2, Pt 3 0)], [(3, (24, (cO o_ a1 c1)))]⟩ fun Z a w108 X109 hS hE hr => ?_
 replace hO := hO.m2 hE
 replace h1 := h1.m1 hE
 replace h2 := h2.m1 hE
 clear hE hr
 refine regO ?_
 refine oP T hS 2 ⟨[(9, V (.agg #[.int .i64 o_.States, .int .i64 o_.Kinds, .int .i64 o_.Init, .slice a1 o_.Rows.length c1])), (10, Sl a2 l_ c2)], []⟩ fun a hS => ?_
 obtain ⟨hq, hm⟩ := hm
 refine op1 (call hS kr kr hb40 kr (fun _ _ => rfl) (k40 _ _ o_ l_ a1 c1 a2 c2 hq h1 h2) ?_)
 intro v101 a w102 X103 hE hp hS
 replace hO := hO.m2 hE
 replace h1 := h1.m1 hE
 replace h2 := h2.m1 hE
 obtain ⟨a105, c106, hp, h107⟩ := hp
 obtain ⟨r104, hr⟩ : ∃ r, search_Search o_ l_ = r := ⟨_, rfl⟩
 replace hm := hm r104 hr
 rw [hr] at hp h107
 clear hr
 subst hp
 replace hm := hm (h107.sm kr)
 refine ePb T hS [(7, I r104.2)] fun a hS => ?_
 refine wseq ?_
 refine rPb T hS [(7, I r104.2), (15, B (r104.2 == 41))] fun a hS => ?_
 refine wcond hS (b := (r104.2 == 41)) kr (fun hb => ?_) fun hb => ?_
 ·replace hm := hm.1 hb
  refine rPb T hS [(4, B false), (5, I 0)] fun a hS => ?_
  refine wret ?_
  exact fin T hS hO (fun c => c) rfl (r := [.bool false, .int .i64 0]) kr (fun X' hM hC => ⟨(false, 0), hm, rfl⟩)
 replace hm := hm.2 hb
 refine wskip ?_
 refine rPb T hS [(4, B (r104.2 == 0)), (5, I r104.2)] fun a hS => ?_
 refine wret ?_
 exact fin T hS hO (fun c => c) rfl (r := [.bool (r104.2 == 0), .int .i64 r104.2]) kr (fun X' hM hC => ⟨((r104.2 == 0), r104.2), hm, rfl⟩)
theorem C25 (k40 : S40) (v : ∀ (o_ : Api_Object) (l_ : List Api_Oper), preSe o_ l_ -> VC25 o_ l_ (fun r => r = search_Lin o_ l_)) : S25 := by
 intro w X o_ l_ a1 c1 a2 c2   hp h1 h2
 refine (W25 k40 w X o_ l_ a1 c1 a2 c2   _ (v o_ l_ hp) h1 h2).mono ?_
 rintro _ _ _ _ ⟨r, rfl, h⟩
 exact h
theorem W37 (w0) (X0) (x_ : Api_Event) (Q : Int -> Prop) (hm : VC37 x_ Q) :
  Ret Try.prog 37 #[.agg #[.int .i64 x_.What, .int .i64 x_.Prc, .int .i64 x_.N]] xnone w0 X0 (fun w X' v => ∃ r, Q r /\ v = .int .i64 r) := by
 unfold VC37 at hm
 refine enter Try.func37 rfl (vals := [.agg #[.int .i64 x_.What, .int .i64 x_.Prc, .int .i64 x_.N]]) kr ?_
 intro Z a hS hO hM
 refine rM T hS ⟨[(1, Pt 2 0)], [(2, (54, (cE x_)))]⟩ fun Z a w101 X102 hS hE hr => ?_
 replace hO := hO.m2 hE
 clear hE hr
 refine wseq ?_
 refine wblock ?_
 refine rPb T hS [(1, Pt 2 0), (3, B ((x_.What != 1) && (x_.What != 2)))] (sp := [7]) fun a hS => ?_
 refine wcond hS (b := ((x_.What != 1) && (x_.What != 2))) kr (fun hb => ?_) fun hb => ?_
 ·replace hm := hm.1 hb
  refine rP T hS ⟨[(2, I 8)], []⟩ fun a hS => ?_
  refine wret ?_
  exact fin T hS hO (fun c => c) rfl (r := [.int .i64 8]) kr (fun X' hM hC => ⟨8, hm, rfl⟩)
 replace hm := hm.2 hb
 refine rPb T hS [(1, Pt 2 0), (12, B ((decide (x_.Prc < 1)) || (decide (x_.Prc > 1000))))] (sp := [16]) fun a hS => ?_
 refine wcond hS (b := ((decide (x_.Prc < 1)) || (decide (x_.Prc > 1000)))) kr (fun hb => ?_) fun hb => ?_
 ·replace hm := hm.1 hb
  refine rP T hS ⟨[(2, I 2)], []⟩ fun a hS => ?_
  refine wret ?_
  exact fin T hS hO (fun c => c) rfl (r := [.int .i64 2]) kr (fun X' hM hC => ⟨2, hm, rfl⟩)
 replace hm := hm.2 hb
 refine rPb T hS [(1, Pt 2 0), (21, B ((x_.What == 1) && ((decide (x_.N < 0)) || (decide (x_.N ≥ 64)))))] (sp := [25, 29]) fun a hS => ?_
 refine wcond hS (b := ((x_.What == 1) && ((decide (x_.N < 0)) || (decide (x_.N ≥ 64))))) kr (fun hb => ?_) fun hb => ?_
 ·replace hm := hm.1 hb
  refine rP T hS ⟨[(2, I 31)], []⟩ fun a hS => ?_
  refine wret ?_
  exact fin T hS hO (fun c => c) rfl (r := [.int .i64 31]) kr (fun X' hM hC => ⟨31, hm, rfl⟩)
 replace hm := hm.2 hb
 refine rP T hS ⟨[(35, B ((x_.What == 2) && ((decide (x_.N < 0)) || (decide (x_.N > 1000000)))))], []⟩ (sp := [39, 43]) fun a hS => ?_
 refine wcond hS (b := ((x_.What == 2) && ((decide (x_.N < 0)) || (decide (x_.N > 1000000))))) kr (fun hb => ?_) fun hb => ?_
 ·replace hm := hm.1 hb
  refine rPb T hS [(2, I 7)] fun a hS => ?_
  refine wret ?_
  exact fin T hS hO (fun c => c) rfl (r := [.int .i64 7]) kr (fun X' hM hC => ⟨7, hm, rfl⟩)
 replace hm := hm.2 hb
 refine wskip ?_
 refine rPb T hS [(2, I 0)] fun a hS => ?_
 refine wret ?_
 exact fin T hS hO (fun c => c) rfl (r := [.int .i64 0]) kr (fun X' hM hC => ⟨0, hm, rfl⟩)
theorem C37 (v : ∀ (x_ : Api_Event), VC37 x_ (fun r => r = event_alone x_)) : S37 := by
 intro w X x_    
 refine (W37 w X x_    _ (v x_)).mono ?_
 rintro _ _ _ _ ⟨r, rfl, h⟩
 exact h
end Go.Proofs.Ytojdelnnjhbgbaa
