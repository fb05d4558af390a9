/- Walks: each function returns what its condition asks. Condition: the contracts of its callees, handed in. -/
import Derived.Test.YtancoeikfkebfaaDoorMWalksS
set_option linter.all false
namespace Go.Proofs.YtancoeikfkebfaaDoor
open Go Go.Sv
set_option maxHeartbeats 1000000
/-- (*replevin/dimacs.reader).word -/
theorem W20 (k23 : S23) (k39 : S39) (w0 : World) (χ0 : Nat → Nat) (want : List UInt8) (cap1 : Dimacs_reader) (a1 : Option Addr) (c1 : Nat) (b1 : Nat) (i1 : Nat) (Q : Dimacs_reader → Prop) (hm : VC20 want cap1 Q) (h1 : RS tToken_Token w0 χ0 a1 cap1.rest c1) (hc1 : Cell w0 χ0 b1 i1 58 [.int .i64 cap1.fault.at_, .int .i64 cap1.fault.e, .slice a1 cap1.rest.length c1, .int .i64 cap1.end_]) (hA : Apart [i1]) :
  Ret Tryd.prog 20 #[.pointer (some ⟨b1, 0, none⟩), .string (bs want)] (pR [i1]) w0 χ0 (fun w χ' v => ∃ r, Q r ∧ ∃ (ra1 : Option Addr) (rc1 : Nat), v = .tuple #[] ∧ RS tToken_Token w χ' ra1 r.rest rc1 ∧ Cell w χ' b1 i1 58 [.int .i64 r.fault.at_, .int .i64 r.fault.e, .slice ra1 r.rest.length rc1, .int .i64 r.end_]) := by
 unfold VC20 at hm
 replace hm := hm (h1.sm kr)
 refine enterR Tryd.func20 rfl (f0of [(i1, 901)]) (fun id => (bif Nat.beq id 901 then b1 else 0)) (args := [Pt 901 0, Z want]) (bxs := [(901, (58, [I cap1.fault.at_, I cap1.fault.e, Sl a1 cap1.rest c1, I cap1.end_]))]) kr rfl (BoxesOK.cons kr (hc1.map (f0of_at 0 hA.1 rfl)) BoxesOK.nil) (f0of_0 (fun q hq => (hA.2 q.1 (List.mem_map.2 ⟨q, hq, rfl⟩)).1)) ?_
 intro a hS hO hM
 have hP : Pin [(901, b1)] (fun id => (bif Nat.beq id 901 then b1 else 0)) := by intro q hq; simp at hq; rcases hq with rfl <;> rfl
 generalize (fun id => (bif Nat.beq id 901 then b1 else 0)) = ρ at hS hP
 clear hc1
 replace h1 := h1.m0 hM
 clear hM
 refine regO ?_
 refine oP T hS 1 ⟨[(0, Pt 901 0), (1, Z want), (7, Pt 901 0)], [(901, (58, [I cap1.fault.at_, I cap1.fault.e, Sl a1 cap1.rest c1, I cap1.end_]))]⟩ fun a hS => ?_
 refine op1 (callR hS kr kr hb39 kr (k39 _ _ cap1 a1 c1 (ρ 901) 901 h1 (hS.cell (id := 901) (t := 58) (cs := [I cap1.fault.at_, I cap1.fault.e, Sl a1 cap1.rest c1, I cap1.end_]) kr) ⟨by decide, by decide⟩) ?_)
 intro v101 a w102 χ103 hE hp hS
 replace hO := hO.mv hE rfl rfl
 replace h1 := h1.mv hE rfl
 clear hE
 obtain ⟨a105, c106, hp, h107, hc108⟩ := hp
 obtain ⟨r104, hr⟩ : ∃ r, dimacs_reader_next cap1 = r := ⟨_, rfl⟩
 replace hm := hm r104 hr
 rw [hr] at hp h107 hc108
 clear hr
 subst hp
 replace hm := hm (h107.sm kr)
 replace hS := hS.addbox (id := 901) (t := 58) (cs := [I r104.2.2.fault.at_, I r104.2.2.fault.e, Sl a105 r104.2.2.rest c106, I r104.2.2.end_]) kr hc108
 clear hc108
 refine eM T hS ⟨[(0, Pt 901 0), (1, Z want), (4, Pt 5 0), (5, B r104.2.1)], [(5, (44, [I r104.1.Line, I r104.1.At, Z r104.1.Text])), (901, (58, [I r104.2.2.fault.at_, I r104.2.2.fault.e, Sl a105 r104.2.2.rest c106, I r104.2.2.end_]))]⟩ fun ρ a w117 χ118 hS hE hr => ?_
 replace hO := hO.mv hE rfl rfl
 replace h107 := h107.mv hE rfl
 replace hP := hP.mv hr kr
 clear hE hr
 refine rP T hS ⟨[(0, Pt 901 0), (4, Pt 5 0), (17, B (r104.2.1 && (!(r104.1.Text == want))))], [(5, (44, [I r104.1.Line, I r104.1.At, Z r104.1.Text])), (901, (58, [I r104.2.2.fault.at_, I r104.2.2.fault.e, Sl a105 r104.2.2.rest c106, I r104.2.2.end_]))]⟩ (sp := [12]) fun a hS => ?_
 refine wcond hS (b := (r104.2.1 && (!(r104.1.Text == want)))) kr (fun hb => ?_) (fun hb => ?_)
 ·replace hm := hm.1 hb
  refine region ?_
  refine oP T hS 2 ⟨[(18, Pt 901 0), (19, V (.agg #[.int .i64 r104.1.Line, .int .i64 r104.1.At, .string (bs r104.1.Text)]))], [(901, (58, [I r104.2.2.fault.at_, I r104.2.2.fault.e, Sl a105 r104.2.2.rest c106, I r104.2.2.end_]))]⟩ fun a hS => ?_
  refine op1 (callR hS kr kr hb23 kr (k23 _ _ r104.1 8 r104.2.2 a105 c106 (ρ 901) 901 h107 (hS.cell (id := 901) (t := 58) (cs := [I r104.2.2.fault.at_, I r104.2.2.fault.e, Sl a105 r104.2.2.rest c106, I r104.2.2.end_]) kr) ⟨by decide, by decide⟩) ?_)
  intro v109 a w110 χ111 hE hp hS
  replace hO := hO.mv hE rfl rfl
  replace h107 := h107.mv hE rfl
  clear hE
  obtain ⟨a113, c114, hp, h115, hc116⟩ := hp
  obtain ⟨r112, hr⟩ : ∃ r, dimacs_reader_wrong r104.1 8 r104.2.2 = r := ⟨_, rfl⟩
  replace hm := hm r112 hr
  rw [hr] at h115 hc116
  clear hr
  subst hp
  replace hm := hm (h115.sm kr)
  replace hS := hS.addbox (id := 901) (t := 58) (cs := [I r112.fault.at_, I r112.fault.e, Sl a113 r112.rest c114, I r112.end_]) kr hc116
  clear hc116
  refine doneK ?_
  exact finR T hS hO (fun c h => f0of_zero kr h) (fun c h => f0of_else (l := [(i1, 901)]) h) (f1of [(i1, 901)]) rfl (r := []) kr (fun χ' hM hC => ⟨r112, hm, a113, c114, rfl, h115.m0 hM, ((hS.cell (id := 901) (t := 58) (cs := [I r112.fault.at_, I r112.fault.e, Sl a113 r112.rest c114, I r112.end_]) kr).out (f := (f1of [(i1, 901)])) hC kr kr (hP.at 0 rfl))⟩)
 ·replace hm := hm.2 hb
  refine wskip ?_
  exact finR T hS hO (fun c h => f0of_zero kr h) (fun c h => f0of_else (l := [(i1, 901)]) h) (f1of [(i1, 901)]) rfl (r := []) kr (fun χ' hM hC => ⟨r104.2.2, hm, a105, c106, rfl, h107.m0 hM, ((hS.cell (id := 901) (t := 58) (cs := [I r104.2.2.fault.at_, I r104.2.2.fault.e, Sl a105 r104.2.2.rest c106, I r104.2.2.end_]) kr).out (f := (f1of [(i1, 901)])) hC kr kr (hP.at 0 rfl))⟩)
theorem C20 (k23 : S23) (k39 : S39) (v : ∀ (want : List UInt8) (cap1 : Dimacs_reader), VC20 want cap1 (fun r => r = dimacs_reader_word want cap1)) : S20 := by
 intro w χ want cap1 a1 c1  b1 i1 h1 hc1 hA
 refine (W20 k23 k39 w χ want cap1 a1 c1  b1 i1 _ (v want cap1) h1 hc1 hA).mono ?_
 rintro _ _ _ _ ⟨r, rfl, h⟩
 exact h
/-- (*replevin/dimacs.reader).number -/
theorem W21 (k23 : S23) (k39 : S39) (k40 : S40) (w0 : World) (χ0 : Nat → Nat) (lo : Int) (hi : Int) (cap1 : Dimacs_reader) (a1 : Option Addr) (c1 : Nat) (b1 : Nat) (i1 : Nat) (Q : Int × Token_Token × Dimacs_reader → Prop) (hm : VC21 lo hi cap1 Q) (h1 : RS tToken_Token w0 χ0 a1 cap1.rest c1) (hc1 : Cell w0 χ0 b1 i1 58 [.int .i64 cap1.fault.at_, .int .i64 cap1.fault.e, .slice a1 cap1.rest.length c1, .int .i64 cap1.end_]) (hA : Apart [i1]) :
  Ret Tryd.prog 21 #[.pointer (some ⟨b1, 0, none⟩), .int .i64 lo, .int .i64 hi] (pR [i1]) w0 χ0 (fun w χ' v => ∃ r, Q r ∧ ∃ (ra1 : Option Addr) (rc1 : Nat), v = .tuple #[.int .i64 r.1, .agg #[.int .i64 r.2.1.Line, .int .i64 r.2.1.At, .string (bs r.2.1.Text)]] ∧ RS tToken_Token w χ' ra1 r.2.2.rest rc1 ∧ Cell w χ' b1 i1 58 [.int .i64 r.2.2.fault.at_, .int .i64 r.2.2.fault.e, .slice ra1 r.2.2.rest.length rc1, .int .i64 r.2.2.end_]) := by
 unfold VC21 at hm
 replace hm := hm (h1.sm kr)
 refine enterR Tryd.func21 rfl (f0of [(i1, 901)]) (fun id => (bif Nat.beq id 901 then b1 else 0)) (args := [Pt 901 0, I lo, I hi]) (bxs := [(901, (58, [I cap1.fault.at_, I cap1.fault.e, Sl a1 cap1.rest c1, I cap1.end_]))]) kr rfl (BoxesOK.cons kr (hc1.map (f0of_at 0 hA.1 rfl)) BoxesOK.nil) (f0of_0 (fun q hq => (hA.2 q.1 (List.mem_map.2 ⟨q, hq, rfl⟩)).1)) ?_
 intro a hS hO hM
 have hP : Pin [(901, b1)] (fun id => (bif Nat.beq id 901 then b1 else 0)) := by intro q hq; simp at hq; rcases hq with rfl <;> rfl
 generalize (fun id => (bif Nat.beq id 901 then b1 else 0)) = ρ at hS hP
 clear hc1
 replace h1 := h1.m0 hM
 clear hM
 refine rM T hS ⟨[(0, Pt 901 0), (1, I lo), (2, I hi), (7, Pt 8 0)], [(8, (44, [I 0, I 0, Z ([] : List UInt8)])), (901, (58, [I cap1.fault.at_, I cap1.fault.e, Sl a1 cap1.rest c1, I cap1.end_]))]⟩ fun ρ a w140 χ141 hS hE hr => ?_
 replace hO := hO.mv hE rfl rfl
 replace h1 := h1.mv hE rfl
 replace hP := hP.mv hr kr
 clear hE hr
 refine regO ?_
 refine oP T hS 1 ⟨[(0, Pt 901 0), (1, I lo), (2, I hi), (7, Pt 8 0), (13, Pt 901 0)], [(8, (44, [I 0, I 0, Z ([] : List UInt8)])), (901, (58, [I cap1.fault.at_, I cap1.fault.e, Sl a1 cap1.rest c1, I cap1.end_]))]⟩ fun a hS => ?_
 refine op1 (callR hS kr kr hb39 kr (k39 _ _ cap1 a1 c1 (ρ 901) 901 h1 (hS.cell (id := 901) (t := 58) (cs := [I cap1.fault.at_, I cap1.fault.e, Sl a1 cap1.rest c1, I cap1.end_]) kr) ⟨by decide, by decide⟩) ?_)
 intro v101 a w102 χ103 hE hp hS
 replace hO := hO.mv hE rfl rfl
 replace h1 := h1.mv hE rfl
 clear hE
 obtain ⟨a105, c106, hp, h107, hc108⟩ := hp
 obtain ⟨r104, hr⟩ : ∃ r, dimacs_reader_next cap1 = r := ⟨_, rfl⟩
 replace hm := hm r104 hr
 rw [hr] at hp h107 hc108
 clear hr
 subst hp
 replace hm := hm (h107.sm kr)
 replace hS := hS.addbox (id := 901) (t := 58) (cs := [I r104.2.2.fault.at_, I r104.2.2.fault.e, Sl a105 r104.2.2.rest c106, I r104.2.2.end_]) kr hc108
 clear hc108
 refine eM T hS ⟨[(0, Pt 901 0), (1, I lo), (2, I hi), (7, Pt 8 0), (8, Pt 9 0), (9, B r104.2.1)], [(8, (44, [I 0, I 0, Z ([] : List UInt8)])), (9, (44, [I r104.1.Line, I r104.1.At, Z r104.1.Text])), (901, (58, [I r104.2.2.fault.at_, I r104.2.2.fault.e, Sl a105 r104.2.2.rest c106, I r104.2.2.end_]))]⟩ fun ρ a w138 χ139 hS hE hr => ?_
 replace hO := hO.mv hE rfl rfl
 replace h107 := h107.mv hE rfl
 replace hP := hP.mv hr kr
 clear hE hr
 refine wseq ?_
 refine rP T hS ⟨[(0, Pt 901 0), (1, I lo), (2, I hi), (7, Pt 8 0), (8, Pt 9 0), (18, B (!r104.2.1))], [(8, (44, [I 0, I 0, Z ([] : List UInt8)])), (9, (44, [I r104.1.Line, I r104.1.At, Z r104.1.Text])), (901, (58, [I r104.2.2.fault.at_, I r104.2.2.fault.e, Sl a105 r104.2.2.rest c106, I r104.2.2.end_]))]⟩ fun a hS => ?_
 refine wcond hS (b := (!r104.2.1)) kr (fun hb => ?_) (fun hb => ?_)
 ·replace hm := hm.1 hb
  refine drawnSX [9, 901] mixed hS ?_
  intro w109 χ110 hS hE hD hH
  replace hO := hO.mv hE rfl rfl
  replace h107 := h107.mv hE rfl
  clear hE
  refine tk T [0, 1] [9, 901] hS hH #[true, true, false] 1 ⟨[(6, I 0), (7, Pt 8 0), (19, V (.agg #[.int .i64 r104.1.Line, .int .i64 r104.1.At, .string (bs r104.1.Text)]))], [(8, (44, [I 0, I 0, Z ([] : List UInt8)])), (9, (44, [I r104.1.Line, I r104.1.At, Z r104.1.Text])), (901, (58, [I r104.2.2.fault.at_, I r104.2.2.fault.e, Sl a105 r104.2.2.rest c106, I r104.2.2.end_]))]⟩ fun a hS => ?_
  replace hS := hS.sl ⟨[(6, I 0), (7, Pt 8 0), (19, V (.agg #[.int .i64 r104.1.Line, .int .i64 r104.1.At, .string (bs r104.1.Text)]))], [(8, (44, [I 0, I 0, Z ([] : List UInt8)])), (9, (44, [I r104.1.Line, I r104.1.At, Z r104.1.Text])), (901, (58, [I r104.2.2.fault.at_, I r104.2.2.fault.e, Sl a105 r104.2.2.rest c106, I r104.2.2.end_]))]⟩
  refine only 2 kr (by rfl) (store1 T hS kr kr (sy' := ⟨[(6, I 0), (7, Pt 8 0), (19, V (.agg #[.int .i64 r104.1.Line, .int .i64 r104.1.At, .string (bs r104.1.Text)]))], [(8, (44, [I r104.1.Line, I r104.1.At, Z r104.1.Text])), (8, (44, [I 0, I 0, Z ([] : List UInt8)])), (9, (44, [I r104.1.Line, I r104.1.At, Z r104.1.Text])), (901, (58, [I r104.2.2.fault.at_, I r104.2.2.fault.e, Sl a105 r104.2.2.rest c106, I r104.2.2.end_]))]⟩) kr ?_)
  intro a w111 χ112 hS hE
  replace hO := hO.mv hE rfl rfl
  replace hD := hD.ev hE rfl
  replace h107 := h107.mv hE rfl
  clear hE
  replace hS := hS.sl ⟨[(6, I 0), (7, Pt 8 0), (19, V (.agg #[.int .i64 r104.1.Line, .int .i64 r104.1.At, .string (bs r104.1.Text)]))], [(8, (44, [I r104.1.Line, I r104.1.At, Z r104.1.Text])), (9, (44, [I r104.1.Line, I r104.1.At, Z r104.1.Text])), (901, (58, [I r104.2.2.fault.at_, I r104.2.2.fault.e, Sl a105 r104.2.2.rest c106, I r104.2.2.end_]))]⟩
  refine andH (Hold.of hS (bks := [9, 901]) kr hD) ?_
  intro hH
  refine drawnDone kr ?_
  clear hD hH
  replace hS := hS.sl ⟨[(6, I 0), (7, Pt 8 0)], [(8, (44, [I r104.1.Line, I r104.1.At, Z r104.1.Text])), (901, (58, [I r104.2.2.fault.at_, I r104.2.2.fault.e, Sl a105 r104.2.2.rest c106, I r104.2.2.end_]))]⟩
  refine wret ?_
  exact finR T hS hO (fun c h => f0of_zero kr h) (fun c h => f0of_else (l := [(i1, 901)]) h) (f1of [(i1, 901)]) rfl (r := [.int .i64 0, .agg #[.int .i64 r104.1.Line, .int .i64 r104.1.At, .string (bs r104.1.Text)]]) kr (fun χ' hM hC => ⟨(0, r104.1, r104.2.2), hm, a105, c106, rfl, h107.m0 hM, ((hS.cell (id := 901) (t := 58) (cs := [I r104.2.2.fault.at_, I r104.2.2.fault.e, Sl a105 r104.2.2.rest c106, I r104.2.2.end_]) kr).out (f := (f1of [(i1, 901)])) hC kr kr (hP.at 0 rfl))⟩)
 ·replace hm := hm.2 hb
  refine wskip ?_
  refine regO ?_
  refine oP T hS 4 ⟨[(0, Pt 901 0), (7, Pt 8 0), (8, Pt 9 0), (22, Z r104.1.Text), (23, I lo), (24, I hi)], [(8, (44, [I 0, I 0, Z ([] : List UInt8)])), (9, (44, [I r104.1.Line, I r104.1.At, Z r104.1.Text])), (901, (58, [I r104.2.2.fault.at_, I r104.2.2.fault.e, Sl a105 r104.2.2.rest c106, I r104.2.2.end_]))]⟩ fun a hS => ?_
  obtain ⟨hq, hm⟩ := hm
  refine op1 (call hS kr kr hb40 kr (fun _ _ => rfl) (k40 _ _ r104.1.Text lo hi hq) ?_)
  intro v113 a w114 χ115 hE hp hS
  clear hq
  replace hO := hO.mv hE rfl rfl
  replace h107 := h107.mv hE rfl
  clear hE
  obtain ⟨r116, hr⟩ : ∃ r, token_Number r104.1.Text lo hi = r := ⟨_, rfl⟩
  replace hm := hm r116 hr
  rw [hr] at hp
  clear hr
  subst hp
  refine eP T hS ⟨[(0, Pt 901 0), (7, Pt 8 0), (8, Pt 9 0), (10, I r116.1), (11, I r116.2)], [(8, (44, [I 0, I 0, Z ([] : List UInt8)])), (9, (44, [I r104.1.Line, I r104.1.At, Z r104.1.Text])), (901, (58, [I r104.2.2.fault.at_, I r104.2.2.fault.e, Sl a105 r104.2.2.rest c106, I r104.2.2.end_]))]⟩ fun a hS => ?_
  refine wcut (fun a w => ∃ (ρ : Nat → Nat) (χ : Nat → Nat) (x_117 : Int) (x_118 : Int) (x_119 : List Token_Token) (x_123 : Int) (a120 : Option Addr) (c121 : Nat), VC21_J1 Q r104 r116 x_117 x_118 x_119 x_123 ∧ St Tryd.f21.ntmps ⟨[(7, Pt 8 0), (8, Pt 9 0), (10, I r116.1)], [(8, (44, [I 0, I 0, Z ([] : List UInt8)])), (9, (44, [I r104.1.Line, I r104.1.At, Z r104.1.Text])), (901, (58, [I x_117, I x_118, Sl a120 x_119 c121, I x_123]))]⟩ ρ a w χ ∧ OldR (f0of [(i1, 901)]) w0 χ0 w χ ∧ Pin [(901, b1)] ρ ∧ RS tToken_Token w χ a120 x_119 c121) ?_ ?_
  ·refine rP T hS ⟨[(0, Pt 901 0), (7, Pt 8 0), (8, Pt 9 0), (10, I r116.1), (11, I r116.2), (29, B (r116.2 != 0))], [(8, (44, [I 0, I 0, Z ([] : List UInt8)])), (9, (44, [I r104.1.Line, I r104.1.At, Z r104.1.Text])), (901, (58, [I r104.2.2.fault.at_, I r104.2.2.fault.e, Sl a105 r104.2.2.rest c106, I r104.2.2.end_]))]⟩ fun a hS => ?_
   refine wcond hS (b := (r116.2 != 0)) kr (fun hb => ?_) (fun hb => ?_)
   ·replace hm := hm.1 hb
    refine region ?_
    refine oP T hS 3 ⟨[(7, Pt 8 0), (8, Pt 9 0), (10, I r116.1), (30, Pt 901 0), (31, V (.agg #[.int .i64 r104.1.Line, .int .i64 r104.1.At, .string (bs r104.1.Text)])), (32, I r116.2)], [(8, (44, [I 0, I 0, Z ([] : List UInt8)])), (9, (44, [I r104.1.Line, I r104.1.At, Z r104.1.Text])), (901, (58, [I r104.2.2.fault.at_, I r104.2.2.fault.e, Sl a105 r104.2.2.rest c106, I r104.2.2.end_]))]⟩ fun a hS => ?_
    refine op1 (callR hS kr kr hb23 kr (k23 _ _ r104.1 r116.2 r104.2.2 a105 c106 (ρ 901) 901 h107 (hS.cell (id := 901) (t := 58) (cs := [I r104.2.2.fault.at_, I r104.2.2.fault.e, Sl a105 r104.2.2.rest c106, I r104.2.2.end_]) kr) ⟨by decide, by decide⟩) ?_)
    intro v128 a w129 χ130 hE hp hS
    replace hO := hO.mv hE rfl rfl
    replace h107 := h107.mv hE rfl
    clear hE
    obtain ⟨a132, c133, hp, h134, hc135⟩ := hp
    obtain ⟨r131, hr⟩ : ∃ r, dimacs_reader_wrong r104.1 r116.2 r104.2.2 = r := ⟨_, rfl⟩
    replace hm := hm r131 hr
    rw [hr] at h134 hc135
    clear hr
    subst hp
    replace hm := hm (h134.sm kr)
    replace hS := hS.addbox (id := 901) (t := 58) (cs := [I r131.fault.at_, I r131.fault.e, Sl a132 r131.rest c133, I r131.end_]) kr hc135
    clear hc135
    refine doneK ?_
    exact ⟨ρ, _, r131.fault.at_, r131.fault.e, r131.rest, r131.end_, a132, c133, hm, hS.sl _, hO, hP, h134⟩
   ·replace hm := hm.2 hb
    refine wskip ?_
    exact ⟨ρ, _, r104.2.2.fault.at_, r104.2.2.fault.e, r104.2.2.rest, r104.2.2.end_, a105, c106, hm, hS.sl _, hO, hP, h107⟩
  ·rintro a w137 ⟨ρ, χ136, x_117, x_118, x_119, x_123, a120, c121, hm, hS, hO, hP, h122⟩
   unfold VC21_J1 at hm
   refine drawnSX [9, 901] mixed hS ?_
   intro w124 χ125 hS hE hD hH
   replace hO := hO.mv hE rfl rfl
   replace h122 := h122.mv hE rfl
   clear hE
   refine tk T [0, 1, 2] [9, 901] hS hH #[true, true, true, false] 1 ⟨[(6, I r116.1), (7, Pt 8 0), (35, V (.agg #[.int .i64 r104.1.Line, .int .i64 r104.1.At, .string (bs r104.1.Text)]))], [(8, (44, [I 0, I 0, Z ([] : List UInt8)])), (9, (44, [I r104.1.Line, I r104.1.At, Z r104.1.Text])), (901, (58, [I x_117, I x_118, Sl a120 x_119 c121, I x_123]))]⟩ fun a hS => ?_
   replace hS := hS.sl ⟨[(6, I r116.1), (7, Pt 8 0), (35, V (.agg #[.int .i64 r104.1.Line, .int .i64 r104.1.At, .string (bs r104.1.Text)]))], [(8, (44, [I 0, I 0, Z ([] : List UInt8)])), (9, (44, [I r104.1.Line, I r104.1.At, Z r104.1.Text])), (901, (58, [I x_117, I x_118, Sl a120 x_119 c121, I x_123]))]⟩
   refine only 3 kr (by rfl) (store1 T hS kr kr (sy' := ⟨[(6, I r116.1), (7, Pt 8 0), (35, V (.agg #[.int .i64 r104.1.Line, .int .i64 r104.1.At, .string (bs r104.1.Text)]))], [(8, (44, [I r104.1.Line, I r104.1.At, Z r104.1.Text])), (8, (44, [I 0, I 0, Z ([] : List UInt8)])), (9, (44, [I r104.1.Line, I r104.1.At, Z r104.1.Text])), (901, (58, [I x_117, I x_118, Sl a120 x_119 c121, I x_123]))]⟩) kr ?_)
   intro a w126 χ127 hS hE
   replace hO := hO.mv hE rfl rfl
   replace hD := hD.ev hE rfl
   replace h122 := h122.mv hE rfl
   clear hE
   replace hS := hS.sl ⟨[(6, I r116.1), (7, Pt 8 0), (35, V (.agg #[.int .i64 r104.1.Line, .int .i64 r104.1.At, .string (bs r104.1.Text)]))], [(8, (44, [I r104.1.Line, I r104.1.At, Z r104.1.Text])), (9, (44, [I r104.1.Line, I r104.1.At, Z r104.1.Text])), (901, (58, [I x_117, I x_118, Sl a120 x_119 c121, I x_123]))]⟩
   refine andH (Hold.of hS (bks := [9, 901]) kr hD) ?_
   intro hH
   refine drawnDone kr ?_
   clear hD hH
   replace hS := hS.sl ⟨[(6, I r116.1), (7, Pt 8 0)], [(8, (44, [I r104.1.Line, I r104.1.At, Z r104.1.Text])), (901, (58, [I x_117, I x_118, Sl a120 x_119 c121, I x_123]))]⟩
   refine wret ?_
   exact finR T hS hO (fun c h => f0of_zero kr h) (fun c h => f0of_else (l := [(i1, 901)]) h) (f1of [(i1, 901)]) rfl (r := [.int .i64 r116.1, .agg #[.int .i64 r104.1.Line, .int .i64 r104.1.At, .string (bs r104.1.Text)]]) kr (fun χ' hM hC => ⟨(r116.1, r104.1, (⟨(⟨x_117, x_118⟩ : Dimacs_fault), x_119, x_123⟩ : Dimacs_reader)), hm, a120, c121, rfl, h122.m0 hM, ((hS.cell (id := 901) (t := 58) (cs := [I x_117, I x_118, Sl a120 x_119 c121, I x_123]) kr).out (f := (f1of [(i1, 901)])) hC kr kr (hP.at 0 rfl))⟩)
theorem C21 (k23 : S23) (k39 : S39) (k40 : S40) (v : ∀ (lo : Int) (hi : Int) (cap1 : Dimacs_reader), preNb lo hi cap1 → VC21 lo hi cap1 (fun r => r = dimacs_reader_number lo hi cap1)) : S21 := by
 intro w χ lo hi cap1 a1 c1  b1 i1 hp h1 hc1 hA
 refine (W21 k23 k39 k40 w χ lo hi cap1 a1 c1  b1 i1 _ (v lo hi cap1 hp) h1 hc1 hA).mono ?_
 rintro _ _ _ _ ⟨r, rfl, h⟩
 exact h
/-- (*replevin/dimacs.reader).clause$1 -/
theorem W41 (k23 : S23) (w0 : World) (χ0 : Nat → Nat) (l_ : Int) (t_ : Token_Token) (cap1 : List Int) (cap3 : Dimacs_reader) (cap4 : List (Int × Int)) (a1 : Option Addr) (c1 : Nat) (m1 : Nat) (a2 : Option Addr) (c2 : Nat) (r3 : Nat) (m3 : Nat) (b1 : Nat) (i1 : Nat) (b2 : Nat) (i2 : Nat) (b3 : Nat) (i3 : Nat) (b4 : Nat) (i4 : Nat) (Q : (List Int) × Dimacs_reader × (List (Int × Int)) → Prop) (hm : VC41 l_ t_ cap1 cap3 cap4 Q) (h1 : OS tI 3 w0 χ0 m1 a1 cap1 c1) (h2 : RS tToken_Token w0 χ0 a2 cap3.rest c2) (h3 : OM kI tI false w0 χ0 m3 r3 cap4) (hc1 : Cell w0 χ0 b1 i1 49 [.slice a1 cap1.length c1]) (hc2 : Cell w0 χ0 b2 i2 50 [.pointer (some ⟨b3, 0, none⟩)]) (hc3 : Cell w0 χ0 b3 i3 58 [.int .i64 cap3.fault.at_, .int .i64 cap3.fault.e, .slice a2 cap3.rest.length c2, .int .i64 cap3.end_]) (hc4 : Cell w0 χ0 b4 i4 83 [.map (some r3)]) (hA : Apart [i1, i2, i3, i4, m1, m3]) :
  Ret Tryd.prog 41 #[.int .i64 l_, .agg #[.int .i64 t_.Line, .int .i64 t_.At, .string (bs t_.Text)], .pointer (some ⟨b1, 0, none⟩), .pointer (some ⟨b2, 0, none⟩), .pointer (some ⟨b4, 0, none⟩)] (pR [i1, i2, i3, i4, m1, m3]) w0 χ0 (fun w χ' v => ∃ r, Q r ∧ ∃ (ra1 : Option Addr) (rc1 : Nat) (ra2 : Option Addr) (rc2 : Nat), v = .tuple #[] ∧ OS tI 3 w χ' m1 ra1 r.1 rc1 ∧ RS tToken_Token w χ' ra2 r.2.1.rest rc2 ∧ Cell w χ' b1 i1 49 [.slice ra1 r.1.length rc1] ∧ Cell w χ' b2 i2 50 [.pointer (some ⟨b3, 0, none⟩)] ∧ Cell w χ' b3 i3 58 [.int .i64 r.2.1.fault.at_, .int .i64 r.2.1.fault.e, .slice ra2 r.2.1.rest.length rc2, .int .i64 r.2.1.end_] ∧ Cell w χ' b4 i4 83 [.map (some r3)] ∧ OM kI tI false w χ' m3 r3 r.2.2) := by
 unfold VC41 at hm
 replace hm := hm (h1.sm kr)
 replace hm := hm (h2.sm kr)
 refine enterR Tryd.func41 rfl (f0of [(i1, 901), (i2, 902), (i3, 903), (i4, 904), (m1, 2001), (m3, 2003)]) (fun id => (bif Nat.beq id 901 then b1 else (bif Nat.beq id 902 then b2 else (bif Nat.beq id 903 then b3 else (bif Nat.beq id 904 then b4 else 0))))) (args := [I l_, V (.agg #[.int .i64 t_.Line, .int .i64 t_.At, .string (bs t_.Text)]), Pt 901 0, Pt 902 0, Pt 904 0]) (bxs := [(901, (49, [Sl a1 cap1 c1])), (902, (50, [Pt 903 0])), (903, (58, [I cap3.fault.at_, I cap3.fault.e, Sl a2 cap3.rest c2, I cap3.end_])), (904, (83, [V (.map (some r3))]))]) kr rfl (BoxesOK.cons kr (hc1.map (f0of_at 0 hA.1 rfl)) (BoxesOK.cons kr (hc2.map (f0of_at 1 hA.1 rfl)) (BoxesOK.cons kr (hc3.map (f0of_at 2 hA.1 rfl)) (BoxesOK.cons kr (hc4.map (f0of_at 3 hA.1 rfl)) BoxesOK.nil)))) (f0of_0 (fun q hq => (hA.2 q.1 (List.mem_map.2 ⟨q, hq, rfl⟩)).1)) ?_
 intro a hS hO hM
 have hP : Pin [(901, b1), (902, b2), (903, b3), (904, b4)] (fun id => (bif Nat.beq id 901 then b1 else (bif Nat.beq id 902 then b2 else (bif Nat.beq id 903 then b3 else (bif Nat.beq id 904 then b4 else 0))))) := by intro q hq; simp at hq; rcases hq with rfl | rfl | rfl | rfl <;> rfl
 generalize (fun id => (bif Nat.beq id 901 then b1 else (bif Nat.beq id 902 then b2 else (bif Nat.beq id 903 then b3 else (bif Nat.beq id 904 then b4 else 0))))) = ρ at hS hP
 clear hc1 hc2 hc3 hc4
 replace h1 := h1.map (f := f0of [(i1, 901), (i2, 902), (i3, 903), (i4, 904), (m1, 2001), (m3, 2003)]) (f0of_at 4 hA.1 rfl) hM
 replace h2 := h2.m0 hM
 replace h3 := h3.map (f := f0of [(i1, 901), (i2, 902), (i3, 903), (i4, 904), (m1, 2001), (m3, 2003)]) (f0of_at 5 hA.1 rfl) hM
 clear hM
 refine rM T hS ⟨[(0, I l_), (2, Pt 901 0), (3, Pt 902 0), (4, Pt 904 0), (6, Pt 7 0)], [(7, (44, [I t_.Line, I t_.At, Z t_.Text])), (901, (49, [Sl a1 cap1 c1])), (902, (50, [Pt 903 0])), (903, (58, [I cap3.fault.at_, I cap3.fault.e, Sl a2 cap3.rest c2, I cap3.end_])), (904, (83, [V (.map (some r3))]))]⟩ fun ρ a w155 χ156 hS hE hr => ?_
 replace hO := hO.mv hE rfl rfl
 replace h1 := h1.mv hE rfl rfl
 replace h2 := h2.mv hE rfl
 replace h3 := h3.mv hE rfl rfl
 replace hP := hP.mv hr kr
 clear hE hr
 refine wcut (fun a w => ∃ (ρ : Nat → Nat) (χ : Nat → Nat) (x_101 : List Int) (x_105 : Int) (x_106 : Int) (x_107 : List Token_Token) (x_111 : Int) (a102 : Option Addr) (c103 : Nat) (a108 : Option Addr) (c109 : Nat), VC41_J1 l_ cap4 Q x_101 x_105 x_106 x_107 x_111 ∧ St Tryd.f41.ntmps ⟨[(0, I l_), (2, Pt 901 0), (4, Pt 904 0)], [(901, (49, [Sl a102 x_101 c103])), (902, (50, [Pt 903 0])), (903, (58, [I x_105, I x_106, Sl a108 x_107 c109, I x_111])), (904, (83, [V (.map (some r3))]))]⟩ ρ a w χ ∧ OldR (f0of [(i1, 901), (i2, 902), (i3, 903), (i4, 904), (m1, 2001), (m3, 2003)]) w0 χ0 w χ ∧ Pin [(901, b1), (902, b2), (903, b3), (904, b4)] ρ ∧ OS tI 3 w χ 2001 a102 x_101 c103 ∧ RS tToken_Token w χ a108 x_107 c109 ∧ OM kI tI false w χ 2003 r3 cap4) ?_ ?_
 ·refine wblock ?_
  refine rP T hS ⟨[(0, I l_), (2, Pt 901 0), (3, Pt 902 0), (4, Pt 904 0), (6, Pt 7 0), (7, B (decide (((cap1.length : Nat) : Int) ≥ 1000)))], [(7, (44, [I t_.Line, I t_.At, Z t_.Text])), (901, (49, [Sl a1 cap1 c1])), (902, (50, [Pt 903 0])), (903, (58, [I cap3.fault.at_, I cap3.fault.e, Sl a2 cap3.rest c2, I cap3.end_])), (904, (83, [V (.map (some r3))]))]⟩ fun a hS => ?_
  refine wcond hS (b := decide (((cap1.length : Nat) : Int) ≥ 1000)) kr (fun hb => ?_) (fun hb => ?_)
  ·replace hm := hm.1 hb
   refine region ?_
   refine oP T hS 2 ⟨[(0, I l_), (2, Pt 901 0), (4, Pt 904 0), (11, Pt 903 0), (12, V (.agg #[.int .i64 t_.Line, .int .i64 t_.At, .string (bs t_.Text)]))], [(901, (49, [Sl a1 cap1 c1])), (902, (50, [Pt 903 0])), (903, (58, [I cap3.fault.at_, I cap3.fault.e, Sl a2 cap3.rest c2, I cap3.end_])), (904, (83, [V (.map (some r3))]))]⟩ fun a hS => ?_
   refine op1 (callR hS kr kr hb23 kr (k23 _ _ t_ 3 cap3 a2 c2 (ρ 903) 903 h2 (hS.cell (id := 903) (t := 58) (cs := [I cap3.fault.at_, I cap3.fault.e, Sl a2 cap3.rest c2, I cap3.end_]) kr) ⟨by decide, by decide⟩) ?_)
   intro v127 a w128 χ129 hE hp hS
   replace hO := hO.mv hE rfl rfl
   replace h1 := h1.mv hE rfl rfl
   replace h2 := h2.mv hE rfl
   replace h3 := h3.mv hE rfl rfl
   clear hE
   obtain ⟨a131, c132, hp, h133, hc134⟩ := hp
   obtain ⟨r130, hr⟩ : ∃ r, dimacs_reader_wrong t_ 3 cap3 = r := ⟨_, rfl⟩
   replace hm := hm r130 hr
   rw [hr] at h133 hc134
   clear hr
   subst hp
   replace hm := hm (h133.sm kr)
   replace hS := hS.addbox (id := 903) (t := 58) (cs := [I r130.fault.at_, I r130.fault.e, Sl a131 r130.rest c132, I r130.end_]) kr hc134
   clear hc134
   refine doneK ?_
   exact ⟨ρ, _, cap1, r130.fault.at_, r130.fault.e, r130.rest, r130.end_, a1, c1, a131, c132, hm, hS.sl _, hO, hP, h1, h133, h3⟩
  ·replace hm := hm.2 hb
   refine regO ?_
   refine oP T hS 2 ⟨[(0, I l_), (2, Pt 901 0), (3, Pt 902 0), (4, Pt 904 0), (6, Pt 7 0), (15, V (.map (some r3))), (16, I l_)], [(7, (44, [I t_.Line, I t_.At, Z t_.Text])), (901, (49, [Sl a1 cap1 c1])), (902, (50, [Pt 903 0])), (903, (58, [I cap3.fault.at_, I cap3.fault.e, Sl a2 cap3.rest c2, I cap3.end_])), (904, (83, [V (.map (some r3))]))]⟩ fun a hS => ?_
   refine op1 (mlook kI tI false (zv := .int .i64 0) (z := 0) l_ hS kr kr kr kr Tryd.underlying83 Tryd.underlying3 kr rfl h3 ?_)
   intro v135 a hv hS
   replace hv : tI.R _ _ [v135] _ := hv
   cases hv
   refine eP T hS ⟨[(0, I l_), (2, Pt 901 0), (3, Pt 902 0), (4, Pt 904 0), (6, Pt 7 0), (14, B (decide (((mget cap4 l_).getD 0) > 0)))], [(7, (44, [I t_.Line, I t_.At, Z t_.Text])), (901, (49, [Sl a1 cap1 c1])), (902, (50, [Pt 903 0])), (903, (58, [I cap3.fault.at_, I cap3.fault.e, Sl a2 cap3.rest c2, I cap3.end_])), (904, (83, [V (.map (some r3))]))]⟩ fun a hS => ?_
   refine wcond hS (b := decide (((mget cap4 l_).getD 0) > 0)) kr (fun hb => ?_) (fun hb => ?_)
   ·replace hm := hm.1 hb
    refine region ?_
    refine oP T hS 2 ⟨[(0, I l_), (2, Pt 901 0), (4, Pt 904 0), (19, Pt 903 0), (20, V (.agg #[.int .i64 t_.Line, .int .i64 t_.At, .string (bs t_.Text)]))], [(901, (49, [Sl a1 cap1 c1])), (902, (50, [Pt 903 0])), (903, (58, [I cap3.fault.at_, I cap3.fault.e, Sl a2 cap3.rest c2, I cap3.end_])), (904, (83, [V (.map (some r3))]))]⟩ fun a hS => ?_
    refine op1 (callR hS kr kr hb23 kr (k23 _ _ t_ 21 cap3 a2 c2 (ρ 903) 903 h2 (hS.cell (id := 903) (t := 58) (cs := [I cap3.fault.at_, I cap3.fault.e, Sl a2 cap3.rest c2, I cap3.end_]) kr) ⟨by decide, by decide⟩) ?_)
    intro v136 a w137 χ138 hE hp hS
    replace hO := hO.mv hE rfl rfl
    replace h1 := h1.mv hE rfl rfl
    replace h2 := h2.mv hE rfl
    replace h3 := h3.mv hE rfl rfl
    clear hE
    obtain ⟨a140, c141, hp, h142, hc143⟩ := hp
    obtain ⟨r139, hr⟩ : ∃ r, dimacs_reader_wrong t_ 21 cap3 = r := ⟨_, rfl⟩
    replace hm := hm r139 hr
    rw [hr] at h142 hc143
    clear hr
    subst hp
    replace hm := hm (h142.sm kr)
    replace hS := hS.addbox (id := 903) (t := 58) (cs := [I r139.fault.at_, I r139.fault.e, Sl a140 r139.rest c141, I r139.end_]) kr hc143
    clear hc143
    refine doneK ?_
    exact ⟨ρ, _, cap1, r139.fault.at_, r139.fault.e, r139.rest, r139.end_, a1, c1, a140, c141, hm, hS.sl _, hO, hP, h1, h142, h3⟩
   ·replace hm := hm.2 hb
    refine regO ?_
    refine oP T hS 3 ⟨[(0, I l_), (2, Pt 901 0), (3, Pt 902 0), (4, Pt 904 0), (6, Pt 7 0), (23, V (.map (some r3))), (25, I (IntKind.i64.wrap (0 - l_)))], [(7, (44, [I t_.Line, I t_.At, Z t_.Text])), (901, (49, [Sl a1 cap1 c1])), (902, (50, [Pt 903 0])), (903, (58, [I cap3.fault.at_, I cap3.fault.e, Sl a2 cap3.rest c2, I cap3.end_])), (904, (83, [V (.map (some r3))]))]⟩ fun a hS => ?_
    refine op1 (mlook kI tI false (zv := .int .i64 0) (z := 0) (IntKind.i64.wrap (0 - l_)) hS kr kr kr kr Tryd.underlying83 Tryd.underlying3 kr rfl h3 ?_)
    intro v144 a hv hS
    replace hv : tI.R _ _ [v144] _ := hv
    cases hv
    refine eP T hS ⟨[(0, I l_), (2, Pt 901 0), (3, Pt 902 0), (4, Pt 904 0), (6, Pt 7 0), (22, B (decide (((mget cap4 (IntKind.i64.wrap (0 - l_))).getD 0) > 0)))], [(7, (44, [I t_.Line, I t_.At, Z t_.Text])), (901, (49, [Sl a1 cap1 c1])), (902, (50, [Pt 903 0])), (903, (58, [I cap3.fault.at_, I cap3.fault.e, Sl a2 cap3.rest c2, I cap3.end_])), (904, (83, [V (.map (some r3))]))]⟩ fun a hS => ?_
    refine wcond hS (b := decide (((mget cap4 (IntKind.i64.wrap (0 - l_))).getD 0) > 0)) kr (fun hb => ?_) (fun hb => ?_)
    ·replace hm := hm.1 hb
     refine region ?_
     refine oP T hS 2 ⟨[(0, I l_), (2, Pt 901 0), (4, Pt 904 0), (28, Pt 903 0), (29, V (.agg #[.int .i64 t_.Line, .int .i64 t_.At, .string (bs t_.Text)]))], [(901, (49, [Sl a1 cap1 c1])), (902, (50, [Pt 903 0])), (903, (58, [I cap3.fault.at_, I cap3.fault.e, Sl a2 cap3.rest c2, I cap3.end_])), (904, (83, [V (.map (some r3))]))]⟩ fun a hS => ?_
     refine op1 (callR hS kr kr hb23 kr (k23 _ _ t_ 11 cap3 a2 c2 (ρ 903) 903 h2 (hS.cell (id := 903) (t := 58) (cs := [I cap3.fault.at_, I cap3.fault.e, Sl a2 cap3.rest c2, I cap3.end_]) kr) ⟨by decide, by decide⟩) ?_)
     intro v145 a w146 χ147 hE hp hS
     replace hO := hO.mv hE rfl rfl
     replace h1 := h1.mv hE rfl rfl
     replace h2 := h2.mv hE rfl
     replace h3 := h3.mv hE rfl rfl
     clear hE
     obtain ⟨a149, c150, hp, h151, hc152⟩ := hp
     obtain ⟨r148, hr⟩ : ∃ r, dimacs_reader_wrong t_ 11 cap3 = r := ⟨_, rfl⟩
     replace hm := hm r148 hr
     rw [hr] at h151 hc152
     clear hr
     subst hp
     replace hm := hm (h151.sm kr)
     replace hS := hS.addbox (id := 903) (t := 58) (cs := [I r148.fault.at_, I r148.fault.e, Sl a149 r148.rest c150, I r148.end_]) kr hc152
     clear hc152
     refine doneK ?_
     exact ⟨ρ, _, cap1, r148.fault.at_, r148.fault.e, r148.rest, r148.end_, a1, c1, a149, c150, hm, hS.sl _, hO, hP, h1, h151, h3⟩
    ·replace hm := hm.2 hb
     refine wskip ?_
     exact ⟨ρ, _, cap1, cap3.fault.at_, cap3.fault.e, cap3.rest, cap3.end_, a1, c1, a2, c2, hm, hS.sl _, hO, hP, h1, h2, h3⟩
 ·rintro a w154 ⟨ρ, χ153, x_101, x_105, x_106, x_107, x_111, a102, c103, a108, c109, hm, hS, hO, hP, h104, h110, h112⟩
  unfold VC41_J1 at hm
  refine regO ?_
  refine oP T hS 2 ⟨[(0, I l_), (2, Pt 901 0), (31, V (.map (some r3))), (32, I l_)], [(901, (49, [Sl a102 x_101 c103])), (902, (50, [Pt 903 0])), (903, (58, [I x_105, I x_106, Sl a108 x_107 c109, I x_111])), (904, (83, [V (.map (some r3))]))]⟩ fun a hS => ?_
  refine op1 (mlook kI tI false (zv := .int .i64 0) (z := 0) l_ hS kr kr kr kr Tryd.underlying83 Tryd.underlying3 kr rfl h112 ?_)
  intro v113 a hv hS
  replace hv : tI.R _ _ [v113] _ := hv
  cases hv
  refine oP T hS 1 ⟨[(0, I l_), (2, Pt 901 0), (31, V (.map (some r3))), (32, I l_), (34, I (IntKind.i64.wrap (((mget cap4 l_).getD 0) + 1)))], [(901, (49, [Sl a102 x_101 c103])), (902, (50, [Pt 903 0])), (903, (58, [I x_105, I x_106, Sl a108 x_107 c109, I x_111])), (904, (83, [V (.map (some r3))]))]⟩ fun a hS => ?_
  refine op1 (mset kI tI false (v := I (IntKind.i64.wrap (((mget cap4 l_).getD 0) + 1))) (u := IntKind.i64.wrap (((mget cap4 l_).getD 0) + 1)) l_ hS kr kr kr kr Tryd.underlying83 Tryd.underlying3 kr h112 rfl ?_)
  intro a w114 hE h115 hS
  clear h112
  replace hO := hO.mv hE rfl rfl
  replace h104 := h104.mv hE rfl rfl
  replace h110 := h110.mv hE rfl
  clear hE
  refine doneK ?_
  refine region ?_
  refine oP T hS 2 ⟨[(2, Pt 901 0), (35, Sl a102 x_101 c103), (36, I l_)], [(901, (49, [Sl a102 x_101 c103])), (902, (50, [Pt 903 0])), (903, (58, [I x_105, I x_106, Sl a108 x_107 c109, I x_111])), (904, (83, [V (.map (some r3))]))]⟩ fun a hS => ?_
  refine op1 (lit (E := 3) (col := 0) (T := tI) (vals := [.int .i64 l_]) (ys := [l_]) T hS kr kr kr kr (by exact ⟨rfl, trivial⟩) rfl kr kr kr kr ?_)
  intro b116 a w117 χ118 hE h119 hN hS
  clear hN
  replace hO := hO.mv hE rfl rfl
  replace h104 := h104.mv hE rfl rfl
  replace h110 := h110.mv hE rfl
  replace h115 := h115.mv hE rfl rfl
  clear hE
  replace h119 := h119.rs0
  obtain ⟨hq, hm⟩ := hm
  obtain ⟨news, hN⟩ := h119.src
  refine op1 (append (E := 3) (T := tI) (col := 2001) (xs := x_101) T hS kr kr kr kr h104 hN kr kr kr kr hq ?_)
  intro a123 c124 a w120 χ121 hE h122 hS
  clear hq hN
  clear h104
  replace hO := hO.mv hE rfl rfl
  replace h110 := h110.mv hE rfl
  replace h115 := h115.mv hE rfl rfl
  replace h119 := h119.mv hE rfl
  clear hE
  refine eM T hS ⟨[], [(901, (49, [Sl a123 (x_101 ++ [l_]) c124])), (902, (50, [Pt 903 0])), (903, (58, [I x_105, I x_106, Sl a108 x_107 c109, I x_111])), (904, (83, [V (.map (some r3))]))]⟩ fun ρ a w125 χ126 hS hE hr => ?_
  replace hO := hO.mv hE rfl rfl
  replace h110 := h110.mv hE rfl
  replace h115 := h115.mv hE rfl rfl
  replace h122 := h122.mv hE rfl rfl
  replace hP := hP.mv hr kr
  clear hE hr
  exact finR T hS hO (fun c h => f0of_zero kr h) (fun c h => f0of_else (l := [(i1, 901), (i2, 902), (i3, 903), (i4, 904), (m1, 2001), (m3, 2003)]) h) (f1of [(i1, 901), (i2, 902), (i3, 903), (i4, 904), (m1, 2001), (m3, 2003)]) rfl (r := []) kr (fun χ' hM hC => ⟨(x_101 ++ [l_], (⟨(⟨x_105, x_106⟩ : Dimacs_fault), x_107, x_111⟩ : Dimacs_reader), mput cap4 l_ (IntKind.i64.wrap (((mget cap4 l_).getD 0) + 1))), hm, a123, c124, a108, c109, rfl, (OS.out (f := (f1of [(i1, 901), (i2, 902), (i3, 903), (i4, 904), (m1, 2001), (m3, 2003)])) h122 hM hC kr), h110.m0 hM, ((hS.cell (id := 901) (t := 49) (cs := [Sl a123 (x_101 ++ [l_]) c124]) kr).out (f := (f1of [(i1, 901), (i2, 902), (i3, 903), (i4, 904), (m1, 2001), (m3, 2003)])) hC kr kr (hP.at 0 rfl)), (Cell.ptr (id := 903) ((hS.cell (id := 902) (t := 50) (cs := [Pt 903 0]) kr).out (f := (f1of [(i1, 901), (i2, 902), (i3, 903), (i4, 904), (m1, 2001), (m3, 2003)])) hC kr kr (hP.at 1 rfl)) (hP.at 2 rfl)), ((hS.cell (id := 903) (t := 58) (cs := [I x_105, I x_106, Sl a108 x_107 c109, I x_111]) kr).out (f := (f1of [(i1, 901), (i2, 902), (i3, 903), (i4, 904), (m1, 2001), (m3, 2003)])) hC kr kr (hP.at 2 rfl)), ((hS.cell (id := 904) (t := 83) (cs := [V (.map (some r3))]) kr).out (f := (f1of [(i1, 901), (i2, 902), (i3, 903), (i4, 904), (m1, 2001), (m3, 2003)])) hC kr kr (hP.at 3 rfl)), (h115.out (f := (f1of [(i1, 901), (i2, 902), (i3, 903), (i4, 904), (m1, 2001), (m3, 2003)])) hM hC kr kr)⟩)
theorem C41 (k23 : S23) (v : ∀ (l_ : Int) (t_ : Token_Token) (cap1 : List Int) (cap3 : Dimacs_reader) (cap4 : List (Int × Int)), preCl1 l_ t_ cap1 cap3 cap4 → VC41 l_ t_ cap1 cap3 cap4 (fun r => r = dimacs_reader_clause_1 l_ t_ cap1 cap3 cap4)) : S41 := by
 intro w χ l_ t_ cap1 cap3 cap4 a1 c1 m1 a2 c2 r3 m3  b1 i1 b2 i2 b3 i3 b4 i4 hp h1 h2 h3 hc1 hc2 hc3 hc4 hA
 refine (W41 k23 w χ l_ t_ cap1 cap3 cap4 a1 c1 m1 a2 c2 r3 m3  b1 i1 b2 i2 b3 i3 b4 i4 _ (v l_ t_ cap1 cap3 cap4 hp) h1 h2 h3 hc1 hc2 hc3 hc4 hA).mono ?_
 rintro _ _ _ _ ⟨r, rfl, h⟩
 exact h
/-- (*replevin/dimacs.reader).clause -/
theorem W22 (k21 : S21) (k41 : S41) (w0 : World) (χ0 : Nat → Nat) (vars : Int) (cap1 : Dimacs_reader) (a1 : Option Addr) (c1 : Nat) (b1 : Nat) (i1 : Nat) (Q : (List Int) × Dimacs_reader → Prop) (hm : VC22 vars cap1 Q) (h1 : RS tToken_Token w0 χ0 a1 cap1.rest c1) (hc1 : Cell w0 χ0 b1 i1 58 [.int .i64 cap1.fault.at_, .int .i64 cap1.fault.e, .slice a1 cap1.rest.length c1, .int .i64 cap1.end_]) (hA : Apart [i1]) :
  Ret Tryd.prog 22 #[.pointer (some ⟨b1, 0, none⟩), .int .i64 vars] (pR [i1]) w0 χ0 (fun w χ' v => ∃ r, Q r ∧ ∃ (ra1 : Option Addr) (rc1 : Nat) (ra2 : Option Addr) (rc2 : Nat), v = .slice ra1 r.1.length rc1 ∧ RS tI w χ' ra1 r.1 rc1 ∧ RS tToken_Token w χ' ra2 r.2.rest rc2 ∧ Cell w χ' b1 i1 58 [.int .i64 r.2.fault.at_, .int .i64 r.2.fault.e, .slice ra2 r.2.rest.length rc2, .int .i64 r.2.end_]) := by
 unfold VC22 at hm
 replace hm := hm (h1.sm kr)
 refine enterR Tryd.func22 rfl (f0of [(i1, 901)]) (fun id => (bif Nat.beq id 901 then b1 else 0)) (args := [Pt 901 0, I vars]) (bxs := [(901, (58, [I cap1.fault.at_, I cap1.fault.e, Sl a1 cap1.rest c1, I cap1.end_]))]) kr rfl (BoxesOK.cons kr (hc1.map (f0of_at 0 hA.1 rfl)) BoxesOK.nil) (f0of_0 (fun q hq => (hA.2 q.1 (List.mem_map.2 ⟨q, hq, rfl⟩)).1)) ?_
 intro a hS hO hM
 have hP : Pin [(901, b1)] (fun id => (bif Nat.beq id 901 then b1 else 0)) := by intro q hq; simp at hq; rcases hq with rfl <;> rfl
 generalize (fun id => (bif Nat.beq id 901 then b1 else 0)) = ρ at hS hP
 clear hc1
 replace h1 := h1.m0 hM
 clear hM
 refine rM T hS ⟨[(1, I vars), (2, Pt 3 0)], [(3, (50, [Pt 901 0])), (901, (58, [I cap1.fault.at_, I cap1.fault.e, Sl a1 cap1.rest c1, I cap1.end_]))]⟩ fun ρ a w155 χ156 hS hE hr => ?_
 replace hO := hO.mv hE rfl rfl
 replace h1 := h1.mv hE rfl
 replace hP := hP.mv hr kr
 clear hE hr
 refine regO ?_
 refine op1 (lit (E := 3) (col := 1005) (T := tI) (vals := []) (ys := ([] : List Int)) T hS kr kr kr kr trivial rfl kr kr kr kr ?_)
 intro b101 a w102 χ103 hE h104 hN hS
 clear hN
 replace hO := hO.mv hE rfl rfl
 replace h1 := h1.mv hE rfl
 clear hE
 refine eM T hS ⟨[(1, I vars), (2, Pt 3 0), (5, Pt 6 0)], [(3, (50, [Pt 901 0])), (6, (49, [Sl (some ⟨b101, 0, none⟩) ([] : List Int) 0])), (901, (58, [I cap1.fault.at_, I cap1.fault.e, Sl a1 cap1.rest c1, I cap1.end_]))]⟩ fun ρ a w153 χ154 hS hE hr => ?_
 replace hO := hO.mv hE rfl rfl
 replace h1 := h1.mv hE rfl
 replace h104 := h104.mv hE rfl rfl
 replace hP := hP.mv hr kr
 clear hE hr
 refine regO ?_
 refine op1 (mkmap kI tI false 1012 hS kr kr ?_)
 intro r105 a w106 χ107 hE h108 hS
 replace hO := hO.mv hE rfl rfl
 replace h1 := h1.mv hE rfl
 replace h104 := h104.mv hE rfl rfl
 clear hE
 refine eM T hS ⟨[(1, I vars), (2, Pt 3 0), (5, Pt 6 0), (6, Pt 7 0)], [(3, (50, [Pt 901 0])), (6, (49, [Sl (some ⟨b101, 0, none⟩) ([] : List Int) 0])), (7, (83, [V (.map (some r105))])), (901, (58, [I cap1.fault.at_, I cap1.fault.e, Sl a1 cap1.rest c1, I cap1.end_]))]⟩ fun ρ a w151 χ152 hS hE hr => ?_
 replace hO := hO.mv hE rfl rfl
 replace h1 := h1.mv hE rfl
 replace h104 := h104.mv hE rfl rfl
 replace h108 := h108.mv hE rfl rfl
 replace hP := hP.mv hr kr
 clear hE hr
 refine rP T hS ⟨[(1, I vars), (2, Pt 3 0), (5, Pt 6 0), (7, .f (.func 41) [] [.p 6 0, .p 3 0, .p 7 0])], [(3, (50, [Pt 901 0])), (6, (49, [Sl (some ⟨b101, 0, none⟩) ([] : List Int) 0])), (7, (83, [V (.map (some r105))])), (901, (58, [I cap1.fault.at_, I cap1.fault.e, Sl a1 cap1.rest c1, I cap1.end_]))]⟩ fun a hS => ?_
 refine wblock ?_
 obtain ⟨I1, μ1, hm0, hm⟩ := hm
 refine wloop (σ := (List Int) × (List (Int × Int)) × Int × Int × (List Token_Token) × Int) (fun s a w => ∃ (ρ : Nat → Nat) (χ : Nat → Nat) (a110 : Option Addr) (c111 : Nat) (a118 : Option Addr) (c119 : Nat), I1 s.1 s.2.1 s.2.2.1 s.2.2.2.1 s.2.2.2.2.1 s.2.2.2.2.2 ∧ St Tryd.f22.ntmps ⟨[(1, I vars), (2, Pt 3 0), (5, Pt 6 0), (7, .f (.func 41) [] [.p 6 0, .p 3 0, .p 7 0])], [(3, (50, [Pt 901 0])), (6, (49, [Sl a110 s.1 c111])), (7, (83, [V (.map (some r105))])), (901, (58, [I s.2.2.1, I s.2.2.2.1, Sl a118 s.2.2.2.2.1 c119, I s.2.2.2.2.2]))]⟩ ρ a w χ ∧ OldR (f0of [(i1, 901)]) w0 χ0 w χ ∧ Pin [(901, b1)] ρ ∧ OS tI 3 w χ 1005 a110 s.1 c111 ∧ OM kI tI false w χ 1012 r105 s.2.1 ∧ RS tToken_Token w χ a118 s.2.2.2.2.1 c119) (fun s => μ1 s.1 s.2.1 s.2.2.1 s.2.2.2.1 s.2.2.2.2.1 s.2.2.2.2.2) (⟨([] : List Int), ([] : List (Int × Int)), cap1.fault.at_, cap1.fault.e, cap1.rest, cap1.end_⟩) ?_ ?_
 ·exact ⟨ρ, _, (some ⟨b101, 0, none⟩), 0, a1, c1, hm0, hS.sl _, hO, hP, h104, h108, h1⟩
 ·rintro ⟨x_109, x_113, x_115, x_116, x_117, x_121⟩ a w150 ⟨ρ, χ149, a110, c111, a118, c119, hI, hS, hO, hP, h112, h114, h120⟩
  replace hm := hm x_109 x_113 x_115 x_116 x_117 x_121 hI
  clear hI hm0
  refine wblock ?_
  refine regO ?_
  refine oP T hS 4 ⟨[(1, I vars), (2, Pt 3 0), (5, Pt 6 0), (7, .f (.func 41) [] [.p 6 0, .p 3 0, .p 7 0]), (14, Pt 901 0), (16, I (IntKind.i64.wrap (0 - vars))), (17, I vars)], [(3, (50, [Pt 901 0])), (6, (49, [Sl a110 x_109 c111])), (7, (83, [V (.map (some r105))])), (901, (58, [I x_115, I x_116, Sl a118 x_117 c119, I x_121]))]⟩ fun a hS => ?_
  obtain ⟨hq, hm⟩ := hm
  refine op1 (callR hS kr kr hb21 kr (k21 _ _ (IntKind.i64.wrap (0 - vars)) vars (⟨(⟨x_115, x_116⟩ : Dimacs_fault), x_117, x_121⟩ : Dimacs_reader) a118 c119 (ρ 901) 901 hq h120 (hS.cell (id := 901) (t := 58) (cs := [I x_115, I x_116, Sl a118 x_117 c119, I x_121]) kr) ⟨by decide, by decide⟩) ?_)
  intro v122 a w123 χ124 hE hp hS
  clear hq
  replace hO := hO.mv hE rfl rfl
  replace h112 := h112.mv hE rfl rfl
  replace h114 := h114.mv hE rfl rfl
  replace h120 := h120.mv hE rfl
  clear hE
  obtain ⟨a126, c127, hp, h128, hc129⟩ := hp
  obtain ⟨r125, hr⟩ : ∃ r, dimacs_reader_number (IntKind.i64.wrap (0 - vars)) vars (⟨(⟨x_115, x_116⟩ : Dimacs_fault), x_117, x_121⟩ : Dimacs_reader) = r := ⟨_, rfl⟩
  replace hm := hm r125 hr
  rw [hr] at hp h128 hc129
  clear hr
  subst hp
  replace hm := hm (h128.sm kr)
  replace hS := hS.addbox (id := 901) (t := 58) (cs := [I r125.2.2.fault.at_, I r125.2.2.fault.e, Sl a126 r125.2.2.rest c127, I r125.2.2.end_]) kr hc129
  clear hc129
  refine eM T hS ⟨[(1, I vars), (2, Pt 3 0), (5, Pt 6 0), (7, .f (.func 41) [] [.p 6 0, .p 3 0, .p 7 0]), (8, I r125.1), (9, Pt 10 0)], [(3, (50, [Pt 901 0])), (6, (49, [Sl a110 x_109 c111])), (7, (83, [V (.map (some r105))])), (10, (44, [I r125.2.1.Line, I r125.2.1.At, Z r125.2.1.Text])), (901, (58, [I r125.2.2.fault.at_, I r125.2.2.fault.e, Sl a126 r125.2.2.rest c127, I r125.2.2.end_]))]⟩ fun ρ a w147 χ148 hS hE hr => ?_
  replace hO := hO.mv hE rfl rfl
  replace h112 := h112.mv hE rfl rfl
  replace h114 := h114.mv hE rfl rfl
  replace h128 := h128.mv hE rfl
  replace hP := hP.mv hr kr
  clear hE hr
  refine wseq ?_
  refine rP T hS ⟨[(1, I vars), (2, Pt 3 0), (5, Pt 6 0), (7, .f (.func 41) [] [.p 6 0, .p 3 0, .p 7 0]), (8, I r125.1), (9, Pt 10 0), (30, B ((r125.2.2.fault.e != 0) || (r125.1 == 0)))], [(3, (50, [Pt 901 0])), (6, (49, [Sl a110 x_109 c111])), (7, (83, [V (.map (some r105))])), (10, (44, [I r125.2.1.Line, I r125.2.1.At, Z r125.2.1.Text])), (901, (58, [I r125.2.2.fault.at_, I r125.2.2.fault.e, Sl a126 r125.2.2.rest c127, I r125.2.2.end_]))]⟩ (sp := [27]) fun a hS => ?_
  refine wcond hS (b := ((r125.2.2.fault.e != 0) || (r125.1 == 0))) kr (fun hb => ?_) (fun hb => ?_)
  ·replace hm := hm.1 hb
   refine rP T hS ⟨[(4, Sl a110 x_109 c111)], [(901, (58, [I r125.2.2.fault.at_, I r125.2.2.fault.e, Sl a126 r125.2.2.rest c127, I r125.2.2.end_]))]⟩ fun a hS => ?_
   refine wret ?_
   obtain ⟨χ130, hE, hF⟩ := h112.freeze (by decide)
   replace hS := hS.ev hE (xone_box kr)
   replace hO := hO.mv hE rfl rfl
   replace h128 := h128.mv hE rfl
   have h131 := hF; clear hE hF
   exact finR T hS hO (fun c h => f0of_zero kr h) (fun c h => f0of_else (l := [(i1, 901)]) h) (f1of [(i1, 901)]) rfl (r := [.slice a110 x_109.length c111]) kr (fun χ' hM hC => ⟨(x_109, r125.2.2), hm, a110, c111, a126, c127, rfl, h131.m0 hM, h128.m0 hM, ((hS.cell (id := 901) (t := 58) (cs := [I r125.2.2.fault.at_, I r125.2.2.fault.e, Sl a126 r125.2.2.rest c127, I r125.2.2.end_]) kr).out (f := (f1of [(i1, 901)])) hC kr kr (hP.at 0 rfl))⟩)
  ·replace hm := hm.2 hb
   refine wskip ?_
   refine region ?_
   refine oP T hS 3 ⟨[(1, I vars), (2, Pt 3 0), (5, Pt 6 0), (7, .f (.func 41) [] [.p 6 0, .p 3 0, .p 7 0]), (32, .f (.func 41) [] [.p 6 0, .p 3 0, .p 7 0]), (33, I r125.1), (34, V (.agg #[.int .i64 r125.2.1.Line, .int .i64 r125.2.1.At, .string (bs r125.2.1.Text)]))], [(3, (50, [Pt 901 0])), (6, (49, [Sl a110 x_109 c111])), (7, (83, [V (.map (some r105))])), (901, (58, [I r125.2.2.fault.at_, I r125.2.2.fault.e, Sl a126 r125.2.2.rest c127, I r125.2.2.end_]))]⟩ fun a hS => ?_
   obtain ⟨hq, hm⟩ := hm
   refine op1 (callCR (fi := []) (cp := [.p 6 0, .p 3 0, .p 7 0]) hS kr kr hb41 kr kr (k41 _ _ r125.1 r125.2.1 x_109 r125.2.2 x_113 a110 c111 1005 a126 c127 r105 1012 (ρ 6) 6 (ρ 3) 3 (ρ 901) 901 (ρ 7) 7 hq h112 h128 h114 (hS.cell (id := 6) (t := 49) (cs := [Sl a110 x_109 c111]) kr) (hS.cell (id := 3) (t := 50) (cs := [Pt 901 0]) kr) (hS.cell (id := 901) (t := 58) (cs := [I r125.2.2.fault.at_, I r125.2.2.fault.e, Sl a126 r125.2.2.rest c127, I r125.2.2.end_]) kr) (hS.cell (id := 7) (t := 83) (cs := [V (.map (some r105))]) kr) ⟨by decide, by decide⟩) ?_)
   intro v132 a w133 χ134 hE hp hS
   clear hq
   clear h114
   clear h112
   replace hO := hO.mv hE rfl rfl
   replace h128 := h128.mv hE rfl
   clear hE
   obtain ⟨a136, c137, a139, c140, hp, h138, h141, hc143, hc144, hc145, hc146, h142⟩ := hp
   obtain ⟨r135, hr⟩ : ∃ r, dimacs_reader_clause_1 r125.1 r125.2.1 x_109 r125.2.2 x_113 = r := ⟨_, rfl⟩
   replace hm := hm r135 hr
   rw [hr] at h138 h141 hc143 hc145 h142
   clear hr
   subst hp
   replace hm := hm (h138.sm kr)
   replace hm := hm (h141.sm kr)
   replace hS := hS.addbox (id := 6) (t := 49) (cs := [Sl a136 r135.1 c137]) kr hc143
   replace hS := hS.addbox (id := 3) (t := 50) (cs := [Pt 901 0]) kr hc144
   replace hS := hS.addbox (id := 901) (t := 58) (cs := [I r135.2.1.fault.at_, I r135.2.1.fault.e, Sl a139 r135.2.1.rest c140, I r135.2.1.end_]) kr hc145
   replace hS := hS.addbox (id := 7) (t := 83) (cs := [V (.map (some r105))]) kr hc146
   clear hc143 hc144 hc145 hc146
   refine doneK ?_
   exact ⟨⟨r135.1, r135.2.2, r135.2.1.fault.at_, r135.2.1.fault.e, r135.2.1.rest, r135.2.1.end_⟩, ⟨ρ, _, a136, c137, a139, c140, hm.1, hS.sl _, hO, hP, h138, h142, h141⟩, hm.2⟩
theorem C22 (k21 : S21) (k41 : S41) (v : ∀ (vars : Int) (cap1 : Dimacs_reader), preCl vars cap1 → VC22 vars cap1 (fun r => r = dimacs_reader_clause vars cap1)) : S22 := by
 intro w χ vars cap1 a1 c1  b1 i1 hp h1 hc1 hA
 refine (W22 k21 k41 w χ vars cap1 a1 c1  b1 i1 _ (v vars cap1 hp) h1 hc1 hA).mono ?_
 rintro _ _ _ _ ⟨r, rfl, h⟩
 exact h
/-- slices.Grow[[]replevin/token.Token,replevin/token.Token] -/
theorem W54 (w0 : World) (χ0 : Nat → Nat) (n_ : Int) (col1 : Nat) (Q : (List Token_Token) → Prop) (hm : VC54 n_ Q) :
  Ret Tryd.prog 54 #[.slice none 0 0, .int .i64 n_] xnone w0 χ0 (fun w χ' v => ∃ r, Q r ∧ ∃ (ra1 : Option Addr) (rc1 : Nat), v = .slice ra1 r.length rc1 ∧ OS tToken_Token 44 w χ' col1 ra1 r rc1) := by
 unfold VC54 at hm
 refine enter Tryd.func54 rfl (vals := [.slice none 0 0, .int .i64 n_]) kr ?_
 intro ρ a hS hO hM
 clear hM
 refine rP T hS ⟨[(0, V (.slice none 0 0)), (1, I n_)], []⟩ fun a hS => ?_
 refine wseq ?_
 refine rP T hS ⟨[(0, V (.slice none 0 0)), (1, I n_), (6, B (decide (n_ < 0)))], []⟩ fun a hS => ?_
 refine wcond hS (b := decide (n_ < 0)) kr (fun hb => ?_) (fun hb => ?_)
 ·replace hm := hm.1 hb
  exact hm.elim
 ·replace hm := hm.2 hb
  refine wskip ?_
  refine wcut (fun a w => ∃ (ρ : Nat → Nat) (χ : Nat → Nat) (s_101 : List Token_Token) (a102 : Option Addr) (c103 : Nat), VC54_J1 Q s_101 ∧ St Tryd.f54.ntmps ⟨[(0, Sl a102 s_101 c103)], []⟩ ρ a w χ ∧ Old w0 χ0 w χ ∧ OS tToken_Token 44 w χ 1001 a102 s_101 c103) ?_ ?_
  ·refine regO ?_
   refine oP T hS 2 ⟨[(0, V (.slice none 0 0)), (1, I n_), (8, I n_), (9, V (.slice none 0 0))], []⟩ fun a hS => ?_
   refine op1 (capN (E := 44) T hS kr kr kr kr ?_)
   intro a hS
   refine eP T hS ⟨[(0, V (.slice none 0 0)), (1, I (IntKind.i64.wrap (n_ - (IntKind.i64.wrap (0 - 0)))))], []⟩ fun a hS => ?_
   refine rP T hS ⟨[(0, V (.slice none 0 0)), (1, I (IntKind.i64.wrap (n_ - (IntKind.i64.wrap (0 - 0))))), (16, B (decide ((IntKind.i64.wrap (n_ - (IntKind.i64.wrap (0 - 0)))) > 0)))], []⟩ fun a hS => ?_
   refine wcond hS (b := decide ((IntKind.i64.wrap (n_ - (IntKind.i64.wrap (0 - 0)))) > 0)) kr (fun hb => ?_) (fun hb => ?_)
   ·replace hm := hm.1 hb
    refine region ?_
    refine oP T hS 2 ⟨[(0, V (.slice none 0 0)), (1, I (IntKind.i64.wrap (n_ - (IntKind.i64.wrap (0 - 0))))), (17, V (.slice none 0 0)), (18, V (.slice none 0 0))], []⟩ fun a hS => ?_
    refine op1 (capN (E := 44) T hS kr kr kr kr ?_)
    intro a hS
    obtain ⟨hq, hm⟩ := hm
    refine op1 (sliceH (k := .i64) (E := 44) (col := 1001) (T := tToken_Token) (xs := ([] : List Token_Token)) (ad := none) (c := 0) T hS kr kr kr kr (OS.nil _ _ _ _ _) kr kr hq.1 hq.2 ?_)
    intro a h105 hS
    clear hq
    clear h105
    replace hS := hS.conv (t := 20) (y := .slice none 0 0) kr (by rfl)
    refine oP T hS 1 ⟨[(0, V (.slice none 0 0)), (20, V (.slice none 0 0)), (21, I (IntKind.i64.wrap (n_ - (IntKind.i64.wrap (0 - 0)))))], []⟩ fun a hS => ?_
    obtain ⟨hq, hm⟩ := hm
    refine op1 (appendZ (kn := .i64) (E := 44) (T := tToken_Token) (col := 1001) (m := IntKind.i64.wrap (n_ - (IntKind.i64.wrap (0 - 0)))) T (⟨0, 0, ([] : List UInt8)⟩ : Token_Token) hS kr kr kr kr kr kr kr kr kr hq.1 hq.2 (fun _ _ => rfl) ?_)
    intro a109 c110 a w106 χ107 hE h108 hS
    clear hq
    replace hO := hO.mv hE rfl rfl
    clear hE
    refine oP T hS 2 ⟨[(0, V (.slice none 0 0)), (22, Sl a109 (List.replicate (IntKind.i64.wrap (n_ - (IntKind.i64.wrap (0 - 0)))).toNat (⟨0, 0, ([] : List UInt8)⟩ : Token_Token)) c110), (24, I 0)], []⟩ fun a hS => ?_
    obtain ⟨hq, hm⟩ := hm
    refine op1 (sliceH (k := .i64) (E := 44) (col := 1001) (T := tToken_Token) (xs := List.replicate (IntKind.i64.wrap (n_ - (IntKind.i64.wrap (0 - 0)))).toNat (⟨0, 0, ([] : List UInt8)⟩ : Token_Token)) (ad := a109) (c := c110) T hS kr kr kr kr h108 kr kr hq.1 hq.2 ?_)
    intro a h111 hS
    clear hq
    clear h108
    refine eP T hS ⟨[(0, Sl a109 ((List.replicate (IntKind.i64.wrap (n_ - (IntKind.i64.wrap (0 - 0)))).toNat (⟨0, 0, ([] : List UInt8)⟩ : Token_Token)).take (0 : Int).toNat) c110)], []⟩ fun a hS => ?_
    exact ⟨ρ, _, (List.replicate (IntKind.i64.wrap (n_ - (IntKind.i64.wrap (0 - 0)))).toNat (⟨0, 0, ([] : List UInt8)⟩ : Token_Token)).take (0 : Int).toNat, a109, c110, hm, hS.sl _, hO, h111⟩
   ·replace hm := hm.2 hb
    refine wskip ?_
    exact ⟨ρ, _, [], none, 0, hm, hS.sl _, hO, (OS.nil _ _ _ _ _)⟩
  ·rintro a w113 ⟨ρ, χ112, s_101, a102, c103, hm, hS, hO, h104⟩
   unfold VC54_J1 at hm
   refine rP T hS ⟨[(4, Sl a102 s_101 c103)], []⟩ fun a hS => ?_
   refine wret ?_
   exact fin T hS hO (fun c => (bif Nat.beq c 1001 then col1 else c)) rfl (r := [.slice a102 s_101.length c103]) kr (fun χ' hM hC => ⟨s_101, hm, a102, c103, rfl, (OS.out (f := (fun c => (bif Nat.beq c 1001 then col1 else c))) h104 hM hC kr)⟩)
theorem C54 (v : ∀ (n_ : Int), preGrow n_ → VC54 n_ (fun r => r = slices_Grow_token_Token_token_Token n_)) : S54 := by
 intro w χ n_  col1  hp 
 refine (W54 w χ n_  col1  _ (v n_ hp)).mono ?_
 rintro _ _ _ _ ⟨r, rfl, h⟩
 exact h
/-- slices.Concat[[]replevin/token.Token,replevin/token.Token] -/
theorem W38 (k54 : S54) (w0 : World) (χ0 : Nat → Nat) (slices : List (List Token_Token)) (a1 : Option Addr) (c1 : Nat) (Q : (List Token_Token) → Prop) (hm : VC38 slices Q) (h1 : RS (tSlice tToken_Token) w0 χ0 a1 slices c1) :
  Ret Tryd.prog 38 #[.slice a1 slices.length c1] xnone w0 χ0 (fun w χ' v => ∃ r, Q r ∧ ∃ (ra1 : Option Addr) (rc1 : Nat), v = .slice ra1 r.length rc1 ∧ RS tToken_Token w χ' ra1 r rc1) := by
 unfold VC38 at hm
 replace hm := hm (h1.sm kr)
 refine enter Tryd.func38 rfl (vals := [.slice a1 slices.length c1]) kr ?_
 intro ρ a hS hO hM
 replace h1 := h1.m0 hM
 clear hM
 refine rP T hS ⟨[(0, Sl a1 slices c1)], []⟩ fun a hS => ?_
 refine rP T hS ⟨[(0, Sl a1 slices c1), (3, I 0)], []⟩ fun a hS => ?_
 refine wcut (fun a w => ∃ (ρ : Nat → Nat) (χ : Nat → Nat) (size_102 : Int), VC38_J1 slices Q size_102 ∧ St Tryd.f38.ntmps ⟨[(0, Sl a1 slices c1), (3, I size_102)], []⟩ ρ a w χ ∧ Old w0 χ0 w χ ∧ RS (tSlice tToken_Token) w χ a1 slices c1) ?_ ?_
 ·refine rP T hS ⟨[(0, Sl a1 slices c1), (3, I 0), (9, Sl a1 slices c1), (10, I ((slices.length : Nat) : Int)), (11, I 0)], []⟩ fun a hS => ?_
  refine wblock ?_
  obtain ⟨I2, μ2, hm0, hm⟩ := hm
  refine wloop (σ := Int × Int) (fun s a w => ∃ (ρ : Nat → Nat) (χ : Nat → Nat), I2 s.1 s.2 ∧ St Tryd.f38.ntmps ⟨[(0, Sl a1 slices c1), (3, I s.1), (9, Sl a1 slices c1), (10, I ((slices.length : Nat) : Int)), (11, I s.2)], []⟩ ρ a w χ ∧ Old w0 χ0 w χ ∧ RS (tSlice tToken_Token) w χ a1 slices c1 ∧ RS (tSlice tToken_Token) w χ a1 slices c1) (fun s => μ2 s.1 s.2) (⟨0, 0⟩) ?_ ?_
  ·exact ⟨ρ, _, hm0, hS.sl _, hO, h1, h1⟩
  ·rintro ⟨size_138, x_140⟩ a w148 ⟨ρ, χ147, hI, hS, hO, h137, h139⟩
   replace hm := hm size_138 x_140 hI
   clear hI hm0
   refine rP T hS ⟨[(0, Sl a1 slices c1), (3, I size_138), (9, Sl a1 slices c1), (10, I ((slices.length : Nat) : Int)), (11, I x_140), (12, B (decide (x_140 < ((slices.length : Nat) : Int))))], []⟩ fun a hS => ?_
   refine wseq ?_
   refine wcond hS (b := decide (x_140 < ((slices.length : Nat) : Int))) kr (fun hb => ?_) (fun hb => ?_)
   ·replace hm := hm.1 hb
    refine wskip ?_
    refine wseq ?_
    refine wblock ?_
    refine regO ?_
    obtain ⟨hq, hm⟩ := hm
    refine op1 (index (e := 42) (k := .i64) T hS kr kr kr kr h139 kr kr hq.1 hq.2 ?_)
    intro A141 a h142 hS
    clear hq
    refine op1 (load1 T hS kr kr kr h142 rfl kr ?_)
    intro v143 a hv hS
    obtain ⟨a144, c145, hv, h146⟩ := hv
    cases hv
    replace hm := hm (h146.sm kr)
    refine eP T hS ⟨[(0, Sl a1 slices c1), (3, I size_138), (5, Sl a144 (gi slices x_140) c145), (9, Sl a1 slices c1), (10, I ((slices.length : Nat) : Int)), (11, I x_140)], []⟩ fun a hS => ?_
    refine rP T hS ⟨[(0, Sl a1 slices c1), (3, I (IntKind.i64.wrap (size_138 + (((gi slices x_140).length : Nat) : Int)))), (9, Sl a1 slices c1), (10, I ((slices.length : Nat) : Int)), (11, I x_140)], []⟩ fun a hS => ?_
    refine rP T hS ⟨[(0, Sl a1 slices c1), (3, I (IntKind.i64.wrap (size_138 + (((gi slices x_140).length : Nat) : Int)))), (9, Sl a1 slices c1), (10, I ((slices.length : Nat) : Int)), (11, I x_140), (20, B (decide ((IntKind.i64.wrap (size_138 + (((gi slices x_140).length : Nat) : Int))) < 0)))], []⟩ fun a hS => ?_
    refine wcond hS (b := decide ((IntKind.i64.wrap (size_138 + (((gi slices x_140).length : Nat) : Int))) < 0)) kr (fun hb => ?_) (fun hb => ?_)
    ·replace hm := hm.1 hb
     exact hm.elim
    ·replace hm := hm.2 hb
     refine wskip ?_
     refine region (eP T hS ⟨[(0, Sl a1 slices c1), (3, I (IntKind.i64.wrap (size_138 + (((gi slices x_140).length : Nat) : Int)))), (9, Sl a1 slices c1), (10, I ((slices.length : Nat) : Int)), (11, I (IntKind.i64.wrap (x_140 + 1)))], []⟩ fun a hS => ?_)
     exact ⟨⟨IntKind.i64.wrap (size_138 + (((gi slices x_140).length : Nat) : Int)), IntKind.i64.wrap (x_140 + 1)⟩, ⟨ρ, _, hm.1, hS.sl _, hO, h137, h139⟩, hm.2⟩
   ·replace hm := hm.2 hb
    refine wexit (by rfl) ?_
    exact ⟨ρ, _, size_138, hm, hS.sl _, hO, h137⟩
 ·rintro a w150 ⟨ρ, χ149, size_102, hm, hS, hO, h101⟩
  unfold VC38_J1 at hm
  refine regO ?_
  refine oP T hS 1 ⟨[(0, Sl a1 slices c1), (23, I size_102)], []⟩ fun a hS => ?_
  obtain ⟨hq, hm⟩ := hm
  refine op1 (call hS kr kr hb54 kr (fun _ _ => rfl) (k54 _ _ size_102 1003 hq) ?_)
  intro v103 a w104 χ105 hE hp hS
  clear hq
  replace hO := hO.mv hE rfl rfl
  replace h101 := h101.mv hE rfl
  clear hE
  obtain ⟨a107, c108, hp, h109⟩ := hp
  obtain ⟨r106, hr⟩ : ∃ r, slices_Grow_token_Token_token_Token size_102 = r := ⟨_, rfl⟩
  replace hm := hm r106 hr
  rw [hr] at hp h109
  clear hr
  subst hp
  replace hm := hm (h109.sm kr)
  refine eP T hS ⟨[(0, Sl a1 slices c1), (6, Sl a107 r106 c108)], []⟩ fun a hS => ?_
  refine wcut (fun a w => ∃ (ρ : Nat → Nat) (χ : Nat → Nat) (newslice_110 : List Token_Token) (a111 : Option Addr) (c112 : Nat), VC38_J2 Q newslice_110 ∧ St Tryd.f38.ntmps ⟨[(6, Sl a111 newslice_110 c112)], []⟩ ρ a w χ ∧ Old w0 χ0 w χ ∧ OS tToken_Token 44 w χ 1003 a111 newslice_110 c112) ?_ ?_
  ·refine rP T hS ⟨[(6, Sl a107 r106 c108), (25, Sl a1 slices c1), (26, I ((slices.length : Nat) : Int)), (27, I 0)], []⟩ fun a hS => ?_
   refine wblock ?_
   obtain ⟨I1, μ1, hm0, hm⟩ := hm
   refine wloop (σ := (List Token_Token) × Int) (fun s a w => ∃ (ρ : Nat → Nat) (χ : Nat → Nat) (a117 : Option Addr) (c118 : Nat), I1 s.1 s.2 ∧ St Tryd.f38.ntmps ⟨[(6, Sl a117 s.1 c118), (25, Sl a1 slices c1), (26, I ((slices.length : Nat) : Int)), (27, I s.2)], []⟩ ρ a w χ ∧ Old w0 χ0 w χ ∧ OS tToken_Token 44 w χ 1003 a117 s.1 c118 ∧ RS (tSlice tToken_Token) w χ a1 slices c1) (fun s => μ1 s.1 s.2) (⟨r106, 0⟩) ?_ ?_
   ·exact ⟨ρ, _, a107, c108, hm0, hS.sl _, hO, h109, h101⟩
   ·rintro ⟨newslice_116, x_121⟩ a w134 ⟨ρ, χ133, a117, c118, hI, hS, hO, h119, h120⟩
    replace hm := hm newslice_116 x_121 hI
    clear hI hm0
    refine rP T hS ⟨[(6, Sl a117 newslice_116 c118), (25, Sl a1 slices c1), (26, I ((slices.length : Nat) : Int)), (27, I x_121), (28, B (decide (x_121 < ((slices.length : Nat) : Int))))], []⟩ fun a hS => ?_
    refine wseq ?_
    refine wcond hS (b := decide (x_121 < ((slices.length : Nat) : Int))) kr (fun hb => ?_) (fun hb => ?_)
    ·replace hm := hm.1 hb
     refine wskip ?_
     refine wseq ?_
     refine wblock ?_
     refine regO ?_
     obtain ⟨hq, hm⟩ := hm
     refine op1 (index (e := 42) (k := .i64) T hS kr kr kr kr h120 kr kr hq.1 hq.2 ?_)
     intro A122 a h123 hS
     clear hq
     refine op1 (load1 T hS kr kr kr h123 rfl kr ?_)
     intro v124 a hv hS
     obtain ⟨a125, c126, hv, h127⟩ := hv
     cases hv
     replace hm := hm (h127.sm kr)
     refine eP T hS ⟨[(6, Sl a117 newslice_116 c118), (8, Sl a125 (gi slices x_121) c126), (25, Sl a1 slices c1), (26, I ((slices.length : Nat) : Int)), (27, I x_121)], []⟩ fun a hS => ?_
     refine region ?_
     refine oP T hS 2 ⟨[(6, Sl a117 newslice_116 c118), (25, Sl a1 slices c1), (26, I ((slices.length : Nat) : Int)), (27, I x_121), (31, Sl a117 newslice_116 c118), (32, Sl a125 (gi slices x_121) c126)], []⟩ fun a hS => ?_
     obtain ⟨hq, hm⟩ := hm
     obtain ⟨news, hN⟩ := h127.src
     refine op1 (append (E := 44) (T := tToken_Token) (col := 1003) (xs := newslice_116) T hS kr kr kr kr h119 hN kr kr kr kr hq ?_)
     intro a131 c132 a w128 χ129 hE h130 hS
     clear hq hN
     clear h119
     replace hO := hO.mv hE rfl rfl
     replace h120 := h120.mv hE rfl
     replace h127 := h127.mv hE rfl
     clear hE
     refine eP T hS ⟨[(6, Sl a131 (newslice_116 ++ (gi slices x_121)) c132), (25, Sl a1 slices c1), (26, I ((slices.length : Nat) : Int)), (27, I x_121)], []⟩ fun a hS => ?_
     refine region (eP T hS ⟨[(6, Sl a131 (newslice_116 ++ (gi slices x_121)) c132), (25, Sl a1 slices c1), (26, I ((slices.length : Nat) : Int)), (27, I (IntKind.i64.wrap (x_121 + 1)))], []⟩ fun a hS => ?_)
     exact ⟨⟨newslice_116 ++ (gi slices x_121), IntKind.i64.wrap (x_121 + 1)⟩, ⟨ρ, _, a131, c132, hm.1, hS.sl _, hO, h130, h120⟩, hm.2⟩
    ·replace hm := hm.2 hb
     refine wexit (by rfl) ?_
     exact ⟨ρ, _, newslice_116, a117, c118, hm, hS.sl _, hO, h119⟩
  ·rintro a w136 ⟨ρ, χ135, newslice_110, a111, c112, hm, hS, hO, h113⟩
   unfold VC38_J2 at hm
   refine rP T hS ⟨[(2, Sl a111 newslice_110 c112)], []⟩ fun a hS => ?_
   refine wret ?_
   obtain ⟨χ114, hE, hF⟩ := h113.freeze (by decide)
   replace hS := hS.ev hE (xone_box kr)
   replace hO := hO.mv hE rfl rfl
   have h115 := hF; clear hE hF
   exact fin T hS hO (fun c => c) rfl (r := [.slice a111 newslice_110.length c112]) kr (fun χ' hM hC => ⟨newslice_110, hm, a111, c112, rfl, h115.m0 hM⟩)
theorem C38 (k54 : S54) (v : ∀ (slices : List (List Token_Token)), preCat slices → VC38 slices (fun r => r = slices_Concat_token_Token_token_Token slices)) : S38 := by
 intro w χ slices a1 c1   hp h1
 refine (W38 k54 w χ slices a1 c1   _ (v slices hp) h1).mono ?_
 rintro _ _ _ _ ⟨r, rfl, h⟩
 exact h
/-- replevin/dimacs.open -/
theorem W19 (k16 : S16) (k38 : S38) (w0 : World) (χ0 : Nat → Nat) (s_ : List UInt8) (col1 : Nat) (Q : Dimacs_reader → Prop) (hm : VC19 s_ Q) :
  Ret Tryd.prog 19 #[.string (bs s_)] xnone w0 χ0 (fun w χ' v => ∃ r, Q r ∧ ∃ (ra1 : Option Addr) (rc1 : Nat) (rb1 : Nat), v = .pointer (some ⟨rb1, 0, none⟩) ∧ RS tToken_Token w χ' ra1 r.rest rc1 ∧ Cell w χ' rb1 col1 58 [.int .i64 r.fault.at_, .int .i64 r.fault.e, .slice ra1 r.rest.length rc1, .int .i64 r.end_]) := by
 unfold VC19 at hm
 refine enter Tryd.func19 rfl (vals := [.string (bs s_)]) kr ?_
 intro ρ a hS hO hM
 clear hM
 refine rP T hS ⟨[(0, Z s_)], []⟩ fun a hS => ?_
 refine regO ?_
 refine oP T hS 1 ⟨[(0, Z s_), (3, Z s_)], []⟩ fun a hS => ?_
 obtain ⟨hq, hm⟩ := hm
 refine op1 (call hS kr kr hb16 kr (fun _ _ => rfl) (k16 _ _ s_ hq) ?_)
 intro v101 a w102 χ103 hE hp hS
 clear hq
 replace hO := hO.mv hE rfl rfl
 clear hE
 obtain ⟨a105, c106, hp, h107⟩ := hp
 obtain ⟨r104, hr⟩ : ∃ r, token_Lines s_ = r := ⟨_, rfl⟩
 replace hm := hm r104 hr
 rw [hr] at hp h107
 clear hr
 subst hp
 replace hm := hm (h107.sm kr)
 obtain ⟨hq, hm⟩ := hm
 refine op1 (call hS kr kr hb38 kr (fun _ _ => rfl) (k38 _ _ r104 a105 c106 hq h107) ?_)
 intro v108 a w109 χ110 hE hp hS
 clear hq
 replace hO := hO.mv hE rfl rfl
 replace h107 := h107.mv hE rfl
 clear hE
 obtain ⟨a112, c113, hp, h114⟩ := hp
 obtain ⟨r111, hr⟩ : ∃ r, slices_Concat_token_Token_token_Token r104 = r := ⟨_, rfl⟩
 replace hm := hm r111 hr
 rw [hr] at hp h114
 clear hr
 subst hp
 replace hm := hm (h114.sm kr)
 refine eM T hS ⟨[(2, Pt 10 0)], [(10, (58, [I 0, I 0, Sl a112 r111 c113, I ((s_.length : Nat) : Int)]))]⟩ fun ρ a w115 χ116 hS hE hr => ?_
 replace hO := hO.mv hE rfl rfl
 replace h114 := h114.mv hE rfl
 clear hE hr
 refine wret ?_
 exact fin T hS hO (fun c => (bif Nat.beq c 10 then col1 else c)) rfl (r := [.pointer (some ⟨ρ 10, 0, none⟩)]) kr (fun χ' hM hC => ⟨(⟨(⟨0, 0⟩ : Dimacs_fault), r111, ((s_.length : Nat) : Int)⟩ : Dimacs_reader), hm, a112, c113, (ρ 10), rfl, h114.m0 hM, ((hS.cell (id := 10) (t := 58) (cs := [I 0, I 0, Sl a112 r111 c113, I ((s_.length : Nat) : Int)]) kr).out (f := (fun c => (bif Nat.beq c 10 then col1 else c))) hC kr kr rfl)⟩)
theorem C19 (k16 : S16) (k38 : S38) (v : ∀ (s_ : List UInt8), len1 s_ → VC19 s_ (fun r => r = dimacs_open s_)) : S19 := by
 intro w χ s_  col1  hp 
 refine (W19 k16 k38 w χ s_  col1  _ (v s_ hp)).mono ?_
 rintro _ _ _ _ ⟨r, rfl, h⟩
 exact h
/-- replevin/dimacs.Parse -/
theorem W8 (k19 : S19) (k20 : S20) (k21 : S21) (k22 : S22) (k23 : S23) (w0 : World) (χ0 : Nat → Nat) (s_ : List UInt8) (Q : Api_Formula × Int × Int → Prop) (hm : VC8 s_ Q) :
  Ret Tryd.prog 8 #[.string (bs s_)] xnone w0 χ0 (fun w χ' v => ∃ r, Q r ∧ ∃ (ra1 : Option Addr) (rc1 : Nat), v = .tuple #[.agg #[.int .i64 r.1.Vars, .slice ra1 r.1.Clauses.length rc1], .int .i64 r.2.1, .int .i64 r.2.2] ∧ RS (tSlice tI) w χ' ra1 r.1.Clauses rc1) := by
 unfold VC8 at hm
 refine enter Tryd.func8 rfl (vals := [.string (bs s_)]) kr ?_
 intro ρ a hS hO hM
 clear hM
 refine rM T hS ⟨[(0, Z s_), (2, Pt 3 0)], [(3, (25, [I 0, V (.slice none 0 0)]))]⟩ fun ρ a w339 χ340 hS hE hr => ?_
 replace hO := hO.mv hE rfl rfl
 clear hE hr
 refine wseq ?_
 refine rP T hS ⟨[(0, Z s_), (2, Pt 3 0), (10, B (decide (((s_.length : Nat) : Int) > 1000000)))], [(3, (25, [I 0, V (.slice none 0 0)]))]⟩ fun a hS => ?_
 refine wcond hS (b := decide (((s_.length : Nat) : Int) > 1000000)) kr (fun hb => ?_) (fun hb => ?_)
 ·replace hm := hm.1 hb
  refine rM T hS ⟨[(2, Pt 3 0), (3, I 0), (4, I 3)], [(3, (25, [I 0, V (.slice none 0 0)]))]⟩ fun ρ a w101 χ102 hS hE hr => ?_
  replace hO := hO.mv hE rfl rfl
  clear hE hr
  refine wret ?_
  exact fin T hS hO (fun c => c) rfl (r := [.agg #[.int .i64 0, .slice none 0 0], .int .i64 0, .int .i64 3]) kr (fun χ' hM hC => ⟨((⟨0, []⟩ : Api_Formula), 0, 3), hm, none, 0, rfl, RS.empty _ _ _⟩)
 ·replace hm := hm.2 hb
  refine wskip ?_
  refine regO ?_
  refine oP T hS 1 ⟨[(0, Z s_), (2, Pt 3 0), (12, Z s_)], [(3, (25, [I 0, V (.slice none 0 0)]))]⟩ fun a hS => ?_
  obtain ⟨hq, hm⟩ := hm
  refine op1 (call hS kr kr hb19 kr (fun _ _ => rfl) (k19 _ _ s_ 701 hq) ?_)
  intro v103 a w104 χ105 hE hp hS
  clear hq
  replace hO := hO.mv hE rfl rfl
  clear hE
  obtain ⟨a107, c108, b110, hp, h109, hc111⟩ := hp
  obtain ⟨r106, hr⟩ : ∃ r, dimacs_open s_ = r := ⟨_, rfl⟩
  replace hm := hm r106 hr
  rw [hr] at h109 hc111
  clear hr
  subst hp
  replace hm := hm (h109.sm kr)
  replace hS := hS.newbox (id := 701) (t := 58) (cs := [I r106.fault.at_, I r106.fault.e, Sl a107 r106.rest c108, I r106.end_]) kr kr hc111 rfl
  replace hS := hS.convS (t := 13) (x := V (.pointer (some ⟨b110, 0, none⟩))) (y := Pt 701 0) kr rfl
  generalize (upd ρ 701 b110) = ρ at hS
  clear hc111
  refine eP T hS ⟨[(0, Z s_), (2, Pt 3 0), (5, Pt 701 0)], [(3, (25, [I 0, V (.slice none 0 0)])), (701, (58, [I r106.fault.at_, I r106.fault.e, Sl a107 r106.rest c108, I r106.end_]))]⟩ fun a hS => ?_
  refine regO ?_
  refine oP T hS 1 ⟨[(0, Z s_), (2, Pt 3 0), (5, Pt 701 0), (14, Pt 701 0)], [(3, (25, [I 0, V (.slice none 0 0)])), (701, (58, [I r106.fault.at_, I r106.fault.e, Sl a107 r106.rest c108, I r106.end_]))]⟩ fun a hS => ?_
  refine op1 (callR hS kr kr hb20 kr (k20 _ _ ([112] : List UInt8) r106 a107 c108 (ρ 701) 701 h109 (hS.cell (id := 701) (t := 58) (cs := [I r106.fault.at_, I r106.fault.e, Sl a107 r106.rest c108, I r106.end_]) kr) ⟨by decide, by decide⟩) ?_)
  intro v112 a w113 χ114 hE hp hS
  replace hO := hO.mv hE rfl rfl
  replace h109 := h109.mv hE rfl
  clear hE
  obtain ⟨a116, c117, hp, h118, hc119⟩ := hp
  obtain ⟨r115, hr⟩ : ∃ r, dimacs_reader_word ([112] : List UInt8) r106 = r := ⟨_, rfl⟩
  replace hm := hm r115 hr
  rw [hr] at h118 hc119
  clear hr
  subst hp
  replace hm := hm (h118.sm kr)
  replace hS := hS.addbox (id := 701) (t := 58) (cs := [I r115.fault.at_, I r115.fault.e, Sl a116 r115.rest c117, I r115.end_]) kr hc119
  clear hc119
  refine doneK ?_
  refine regO ?_
  refine oP T hS 1 ⟨[(0, Z s_), (2, Pt 3 0), (5, Pt 701 0), (16, Pt 701 0)], [(3, (25, [I 0, V (.slice none 0 0)])), (701, (58, [I r115.fault.at_, I r115.fault.e, Sl a116 r115.rest c117, I r115.end_]))]⟩ fun a hS => ?_
  refine op1 (callR hS kr kr hb20 kr (k20 _ _ ([99, 110, 102] : List UInt8) r115 a116 c117 (ρ 701) 701 h118 (hS.cell (id := 701) (t := 58) (cs := [I r115.fault.at_, I r115.fault.e, Sl a116 r115.rest c117, I r115.end_]) kr) ⟨by decide, by decide⟩) ?_)
  intro v120 a w121 χ122 hE hp hS
  replace hO := hO.mv hE rfl rfl
  replace h118 := h118.mv hE rfl
  clear hE
  obtain ⟨a124, c125, hp, h126, hc127⟩ := hp
  obtain ⟨r123, hr⟩ : ∃ r, dimacs_reader_word ([99, 110, 102] : List UInt8) r115 = r := ⟨_, rfl⟩
  replace hm := hm r123 hr
  rw [hr] at h126 hc127
  clear hr
  subst hp
  replace hm := hm (h126.sm kr)
  replace hS := hS.addbox (id := 701) (t := 58) (cs := [I r123.fault.at_, I r123.fault.e, Sl a124 r123.rest c125, I r123.end_]) kr hc127
  clear hc127
  refine doneK ?_
  refine regO ?_
  refine oP T hS 1 ⟨[(0, Z s_), (2, Pt 3 0), (5, Pt 701 0), (19, Pt 701 0)], [(3, (25, [I 0, V (.slice none 0 0)])), (701, (58, [I r123.fault.at_, I r123.fault.e, Sl a124 r123.rest c125, I r123.end_]))]⟩ fun a hS => ?_
  obtain ⟨hq, hm⟩ := hm
  refine op1 (callR hS kr kr hb21 kr (k21 _ _ 0 100000 r123 a124 c125 (ρ 701) 701 hq h126 (hS.cell (id := 701) (t := 58) (cs := [I r123.fault.at_, I r123.fault.e, Sl a124 r123.rest c125, I r123.end_]) kr) ⟨by decide, by decide⟩) ?_)
  intro v128 a w129 χ130 hE hp hS
  clear hq
  replace hO := hO.mv hE rfl rfl
  replace h126 := h126.mv hE rfl
  clear hE
  obtain ⟨a132, c133, hp, h134, hc135⟩ := hp
  obtain ⟨r131, hr⟩ : ∃ r, dimacs_reader_number 0 100000 r123 = r := ⟨_, rfl⟩
  replace hm := hm r131 hr
  rw [hr] at hp h134 hc135
  clear hr
  subst hp
  replace hm := hm (h134.sm kr)
  replace hS := hS.addbox (id := 701) (t := 58) (cs := [I r131.2.2.fault.at_, I r131.2.2.fault.e, Sl a132 r131.2.2.rest c133, I r131.2.2.end_]) kr hc135
  clear hc135
  refine eM T hS ⟨[(0, Z s_), (2, Pt 3 0), (5, Pt 701 0)], [(3, (25, [I r131.1, V (.slice none 0 0)])), (701, (58, [I r131.2.2.fault.at_, I r131.2.2.fault.e, Sl a132 r131.2.2.rest c133, I r131.2.2.end_]))]⟩ fun ρ a w337 χ338 hS hE hr => ?_
  replace hO := hO.mv hE rfl rfl
  replace h134 := h134.mv hE rfl
  clear hE hr
  refine regO ?_
  refine oP T hS 1 ⟨[(0, Z s_), (2, Pt 3 0), (5, Pt 701 0), (25, Pt 701 0)], [(3, (25, [I r131.1, V (.slice none 0 0)])), (701, (58, [I r131.2.2.fault.at_, I r131.2.2.fault.e, Sl a132 r131.2.2.rest c133, I r131.2.2.end_]))]⟩ fun a hS => ?_
  obtain ⟨hq, hm⟩ := hm
  refine op1 (callR hS kr kr hb21 kr (k21 _ _ 0 1000000 r131.2.2 a132 c133 (ρ 701) 701 hq h134 (hS.cell (id := 701) (t := 58) (cs := [I r131.2.2.fault.at_, I r131.2.2.fault.e, Sl a132 r131.2.2.rest c133, I r131.2.2.end_]) kr) ⟨by decide, by decide⟩) ?_)
  intro v136 a w137 χ138 hE hp hS
  clear hq
  replace hO := hO.mv hE rfl rfl
  replace h134 := h134.mv hE rfl
  clear hE
  obtain ⟨a140, c141, hp, h142, hc143⟩ := hp
  obtain ⟨r139, hr⟩ : ∃ r, dimacs_reader_number 0 1000000 r131.2.2 = r := ⟨_, rfl⟩
  replace hm := hm r139 hr
  rw [hr] at hp h142 hc143
  clear hr
  subst hp
  replace hm := hm (h142.sm kr)
  replace hS := hS.addbox (id := 701) (t := 58) (cs := [I r139.2.2.fault.at_, I r139.2.2.fault.e, Sl a140 r139.2.2.rest c141, I r139.2.2.end_]) kr hc143
  clear hc143
  refine eM T hS ⟨[(0, Z s_), (2, Pt 3 0), (5, Pt 701 0), (6, I r139.1)], [(3, (25, [I r131.1, V (.slice none 0 0)])), (701, (58, [I r139.2.2.fault.at_, I r139.2.2.fault.e, Sl a140 r139.2.2.rest c141, I r139.2.2.end_]))]⟩ fun ρ a w335 χ336 hS hE hr => ?_
  replace hO := hO.mv hE rfl rfl
  replace h142 := h142.mv hE rfl
  clear hE hr
  refine wcut (fun a w => ∃ (ρ : Nat → Nat) (χ : Nat → Nat) (x_144 : Int) (x_145 : List (List Int)) (x_149 : Int) (x_150 : Int) (x_151 : List Token_Token) (x_155 : Int) (a146 : Option Addr) (c147 : Nat) (a152 : Option Addr) (c153 : Nat), VC8_J1 s_ Q x_144 x_145 x_149 x_150 x_151 x_155 ∧ St Tryd.f8.ntmps ⟨[(0, Z s_), (2, Pt 3 0), (5, Pt 701 0)], [(3, (25, [I x_144, Sl a146 x_145 c147])), (701, (58, [I x_149, I x_150, Sl a152 x_151 c153, I x_155]))]⟩ ρ a w χ ∧ Old w0 χ0 w χ ∧ OS (tSlice tI) 49 w χ 1038 a146 x_145 c147 ∧ RS tToken_Token w χ a152 x_151 c153) ?_ ?_
  ·refine wblock ?_
   obtain ⟨I1, μ1, hm0, hm⟩ := hm
   refine wloop (σ := Int × (List (List Int)) × Int × Int × (List Token_Token) × Int) (fun s a w => ∃ (ρ : Nat → Nat) (χ : Nat → Nat) (a190 : Option Addr) (c191 : Nat) (a196 : Option Addr) (c197 : Nat), I1 s.1 s.2.1 s.2.2.1 s.2.2.2.1 s.2.2.2.2.1 s.2.2.2.2.2 ∧ St Tryd.f8.ntmps ⟨[(0, Z s_), (2, Pt 3 0), (5, Pt 701 0), (6, I r139.1)], [(3, (25, [I s.1, Sl a190 s.2.1 c191])), (701, (58, [I s.2.2.1, I s.2.2.2.1, Sl a196 s.2.2.2.2.1 c197, I s.2.2.2.2.2]))]⟩ ρ a w χ ∧ Old w0 χ0 w χ ∧ OS (tSlice tI) 49 w χ 1038 a190 s.2.1 c191 ∧ RS tToken_Token w χ a196 s.2.2.2.2.1 c197) (fun s => μ1 s.1 s.2.1 s.2.2.1 s.2.2.2.1 s.2.2.2.2.1 s.2.2.2.2.2) (⟨r131.1, [], r139.2.2.fault.at_, r139.2.2.fault.e, r139.2.2.rest, r139.2.2.end_⟩) ?_ ?_
   ·exact ⟨ρ, _, none, 0, a140, c141, hm0, hS.sl _, hO, (OS.nil _ _ _ _ _), h142⟩
   ·rintro ⟨x_188, x_189, x_193, x_194, x_195, x_199⟩ a w332 ⟨ρ, χ331, a190, c191, a196, c197, hI, hS, hO, h192, h198⟩
    replace hm := hm x_188 x_189 x_193 x_194 x_195 x_199 hI
    clear hI hm0
    refine wseq ?_
    refine rP T hS ⟨[(0, Z s_), (2, Pt 3 0), (5, Pt 701 0), (6, I r139.1), (41, B ((x_194 == 0) && (decide (((x_189.length : Nat) : Int) < r139.1))))], [(3, (25, [I x_188, Sl a190 x_189 c191])), (701, (58, [I x_193, I x_194, Sl a196 x_195 c197, I x_199]))]⟩ (sp := [35]) fun a hS => ?_
    refine wcond hS (b := ((x_194 == 0) && (decide (((x_189.length : Nat) : Int) < r139.1)))) kr (fun hb => ?_) (fun hb => ?_)
    ·replace hm := hm.1 hb
     refine wskip ?_
     refine wblock ?_
     refine drawnX [] mixed hS ?_
     intro w200 χ201 hS hE hD hH
     replace hO := hO.mv hE rfl rfl
     replace h192 := h192.mv hE rfl rfl
     replace h198 := h198.mv hE rfl
     clear hE
     refine tk T [0, 2, 3] [] hS hH #[true, false, true, true, false, false, false, false, false, false] 7 ⟨[(0, Z s_), (2, Pt 3 0), (5, Pt 701 0), (6, I r139.1), (42, Pt 3 1), (44, Pt 701 0), (45, Pt 3 0)], [(3, (25, [I x_188, Sl a190 x_189 c191])), (701, (58, [I x_193, I x_194, Sl a196 x_195 c197, I x_199]))]⟩ fun a hS => ?_
     obtain ⟨hgp5, hm⟩ := hm
     obtain ⟨r205, hgr5⟩ : ∃ r, dimacs_reader_clause x_188 (⟨(⟨x_193, x_194⟩ : Dimacs_fault), x_195, x_199⟩ : Dimacs_reader) = r := ⟨_, rfl⟩
     replace hm := hm r205 hgr5
     refine drcut (fun a w => ∃ (χ : Nat → Nat) (a268 : Option Addr) (c269 : Nat) (a271 : Option Addr) (c272 : Nat), St Tryd.f8.ntmps ⟨[(0, Z s_), (2, Pt 3 0), (5, Pt 701 0), (6, I r139.1), (43, Sl a190 x_189 c191), (48, Sl a268 [r205.1] c269)], [(3, (25, [I x_188, Sl a190 x_189 c191])), (701, (58, [I r205.2.fault.at_, I r205.2.fault.e, Sl a271 r205.2.rest c272, I r205.2.end_]))]⟩ ρ a w χ ∧ Old w0 χ0 w χ ∧ M0 w200 χ201 w χ ∧ Hold w200 χ201 (filt [] ⟨[(0, Z s_), (2, Pt 3 0), (5, Pt 701 0), (6, I r139.1)], [(3, (25, [I x_188, Sl a190 x_189 c191])), (701, (58, [I x_193, I x_194, Sl a196 x_195 c197, I x_199]))]⟩) ρ w ∧ OS (tSlice tI) 49 w χ 1038 a190 x_189 c191 ∧ RS (tSlice tI) w χ a268 [r205.1] c269 ∧ RS tToken_Token w χ a271 r205.2.rest c272) #[true, true, true, true, true, true, true, false, false, false] 3 ?_ (fun H => ?_)
     ·rintro a w323 ⟨χ322, a268, c269, a271, c272, hS, hO, hD, hH, h266, h267, h270⟩
      replace hm := hm (h270.sm kr)
      clear hgp5 hgr5
      obtain ⟨hq, hm⟩ := hm
      obtain ⟨news, hN⟩ := h267.src
      refine only 7 kr (by rfl) (append (E := 49) (T := (tSlice tI)) (col := 1038) (xs := x_189) T hS kr kr kr kr h266 hN kr kr kr kr hq ?_)
      intro a327 c328 a w324 χ325 hE h326 hS
      clear hq hN
      clear h266
      replace hO := hO.mv hE rfl rfl
      replace hD := hD.ev hE rfl
      replace h267 := h267.mv hE rfl
      replace h270 := h270.mv hE rfl
      clear hE
      replace hS := hS.sl ⟨[(0, Z s_), (2, Pt 3 0), (5, Pt 701 0), (6, I r139.1), (48, Sl a268 [r205.1] c269), (49, Sl a327 (x_189 ++ [r205.1]) c328)], [(3, (25, [I x_188, Sl a190 x_189 c191])), (701, (58, [I r205.2.fault.at_, I r205.2.fault.e, Sl a271 r205.2.rest c272, I r205.2.end_]))]⟩
      refine andH (Hold.of hS (bks := []) kr hD) ?_
      intro hH
      refine tk T [8] [] hS hH #[true, true, true, true, true, true, true, true, true, false] 1 ⟨[(0, Z s_), (2, Pt 3 0), (5, Pt 701 0), (6, I r139.1), (49, Sl a327 (x_189 ++ [r205.1]) c328), (50, Pt 3 1)], [(3, (25, [I x_188, Sl a190 x_189 c191])), (701, (58, [I r205.2.fault.at_, I r205.2.fault.e, Sl a271 r205.2.rest c272, I r205.2.end_]))]⟩ fun a hS => ?_
      replace hS := hS.sl ⟨[(0, Z s_), (2, Pt 3 0), (5, Pt 701 0), (6, I r139.1), (49, Sl a327 (x_189 ++ [r205.1]) c328), (50, Pt 3 1)], [(3, (25, [I x_188, Sl a190 x_189 c191])), (701, (58, [I r205.2.fault.at_, I r205.2.fault.e, Sl a271 r205.2.rest c272, I r205.2.end_]))]⟩
      refine only 9 kr (by rfl) (store1 T hS kr kr (sy' := ⟨[(0, Z s_), (2, Pt 3 0), (5, Pt 701 0), (6, I r139.1), (49, Sl a327 (x_189 ++ [r205.1]) c328), (50, Pt 3 1)], [(3, (25, [I x_188, Sl a327 (x_189 ++ [r205.1]) c328])), (3, (25, [I x_188, Sl a190 x_189 c191])), (701, (58, [I r205.2.fault.at_, I r205.2.fault.e, Sl a271 r205.2.rest c272, I r205.2.end_]))]⟩) kr ?_)
      intro a w329 χ330 hS hE
      replace hO := hO.mv hE rfl rfl
      replace hD := hD.ev hE rfl
      replace h267 := h267.mv hE rfl
      replace h270 := h270.mv hE rfl
      replace h326 := h326.mv hE rfl rfl
      clear hE
      replace hS := hS.sl ⟨[(0, Z s_), (2, Pt 3 0), (5, Pt 701 0), (6, I r139.1), (49, Sl a327 (x_189 ++ [r205.1]) c328), (50, Pt 3 1)], [(3, (25, [I x_188, Sl a327 (x_189 ++ [r205.1]) c328])), (701, (58, [I r205.2.fault.at_, I r205.2.fault.e, Sl a271 r205.2.rest c272, I r205.2.end_]))]⟩
      refine andH (Hold.of hS (bks := []) kr hD) ?_
      intro hH
      refine drawnDone kr ?_
      clear hD hH
      replace hS := hS.sl ⟨[(0, Z s_), (2, Pt 3 0), (5, Pt 701 0), (6, I r139.1)], [(3, (25, [I x_188, Sl a327 (x_189 ++ [r205.1]) c328])), (701, (58, [I r205.2.fault.at_, I r205.2.fault.e, Sl a271 r205.2.rest c272, I r205.2.end_]))]⟩
      exact ⟨⟨x_188, x_189 ++ [r205.1], r205.2.fault.at_, r205.2.fault.e, r205.2.rest, r205.2.end_⟩, ⟨ρ, _, a327, c328, a271, c272, hm.1, hS.sl _, hO, h326, h270⟩, hm.2⟩
     ·clear hm
      refine anyOf (is := [1, 4]) kr (by decide) ?_
      intro i hi
      rcases mem2 hi with rfl | rfl
      ·refine oneOp (by rfl) (plain1 T hS kr kr kr (sv := Sl a190 x_189 c191) kr ?_)
       intro a hS
       refine andH (Hold.of hS (bks := []) kr hD) ?_
       intro hH
       refine only 4 kr (by rfl) (plain1 T hS kr kr kr (sv := I x_188) kr ?_)
       intro a hS
       refine andH (Hold.of hS (bks := []) kr hD) ?_
       intro hH
       have hq := hgp5
       refine only 5 kr (by rfl) (callR hS kr kr hb22 kr (k22 _ _ x_188 (⟨(⟨x_193, x_194⟩ : Dimacs_fault), x_195, x_199⟩ : Dimacs_reader) a196 c197 (ρ 701) 701 hq h198 (hS.cell (id := 701) (t := 58) (cs := [I x_193, I x_194, Sl a196 x_195 c197, I x_199]) kr) ⟨by decide, by decide⟩) ?_)
       intro v273 a w274 χ275 hE hp hS
       clear hq
       replace hO := hO.mv hE rfl rfl
       replace hD := hD.ev hE rfl
       replace h192 := h192.mv hE rfl rfl
       replace h198 := h198.mv hE rfl
       clear hE
       obtain ⟨a277, c278, a280, c281, hp, h279, h282, hc283⟩ := hp
       rw [hgr5] at hp h279 h282 hc283
       subst hp
       replace hS := hS.addbox (id := 701) (t := 58) (cs := [I r205.2.fault.at_, I r205.2.fault.e, Sl a280 r205.2.rest c281, I r205.2.end_]) kr hc283
       clear hc283
       replace hS := hS.sl ⟨[(0, Z s_), (2, Pt 3 0), (5, Pt 701 0), (6, I r139.1), (42, Pt 3 1), (44, Pt 701 0), (45, Pt 3 0), (43, Sl a190 x_189 c191), (46, I x_188), (47, Sl a277 r205.1 c278)], [(3, (25, [I x_188, Sl a190 x_189 c191])), (701, (58, [I r205.2.fault.at_, I r205.2.fault.e, Sl a280 r205.2.rest c281, I r205.2.end_]))]⟩
       refine andH (Hold.of hS (bks := []) kr hD) ?_
       intro hH
       refine only 6 kr (by rfl) (lit (E := 49) (col := 0) (T := (tSlice tI)) (vals := [.slice a277 r205.1.length c278]) (ys := [r205.1]) T hS kr kr kr kr (by exact ⟨⟨a277, c278, rfl, h279⟩, trivial⟩) rfl kr kr kr kr ?_)
       intro b284 a w285 χ286 hE h287 hN hS
       clear hN
       replace hO := hO.mv hE rfl rfl
       replace hD := hD.ev hE rfl
       replace h192 := h192.mv hE rfl rfl
       replace h198 := h198.mv hE rfl
       replace h279 := h279.mv hE rfl
       replace h282 := h282.mv hE rfl
       clear hE
       replace h287 := h287.rs0
       refine andH (Hold.of hS (bks := []) kr hD) ?_
       intro hH
       exact H _ _ ⟨_, (some ⟨b284, 0, none⟩), 1, a280, c281, hS.sl _, hO, hD, hH, h192, h287, h282⟩
      ·refine oneOp (by rfl) (plain1 T hS kr kr kr (sv := I x_188) kr ?_)
       intro a hS
       refine andH (Hold.of hS (bks := []) kr hD) ?_
       intro hH
       refine anyOf (is := [1, 5]) kr (by decide) ?_
       intro i hi
       rcases mem2 hi with rfl | rfl
       ·refine oneOp (by rfl) (plain1 T hS kr kr kr (sv := Sl a190 x_189 c191) kr ?_)
        intro a hS
        refine andH (Hold.of hS (bks := []) kr hD) ?_
        intro hH
        have hq := hgp5
        refine only 5 kr (by rfl) (callR hS kr kr hb22 kr (k22 _ _ x_188 (⟨(⟨x_193, x_194⟩ : Dimacs_fault), x_195, x_199⟩ : Dimacs_reader) a196 c197 (ρ 701) 701 hq h198 (hS.cell (id := 701) (t := 58) (cs := [I x_193, I x_194, Sl a196 x_195 c197, I x_199]) kr) ⟨by decide, by decide⟩) ?_)
        intro v288 a w289 χ290 hE hp hS
        clear hq
        replace hO := hO.mv hE rfl rfl
        replace hD := hD.ev hE rfl
        replace h192 := h192.mv hE rfl rfl
        replace h198 := h198.mv hE rfl
        clear hE
        obtain ⟨a292, c293, a295, c296, hp, h294, h297, hc298⟩ := hp
        rw [hgr5] at hp h294 h297 hc298
        subst hp
        replace hS := hS.addbox (id := 701) (t := 58) (cs := [I r205.2.fault.at_, I r205.2.fault.e, Sl a295 r205.2.rest c296, I r205.2.end_]) kr hc298
        clear hc298
        replace hS := hS.sl ⟨[(0, Z s_), (2, Pt 3 0), (5, Pt 701 0), (6, I r139.1), (42, Pt 3 1), (44, Pt 701 0), (45, Pt 3 0), (46, I x_188), (43, Sl a190 x_189 c191), (47, Sl a292 r205.1 c293)], [(3, (25, [I x_188, Sl a190 x_189 c191])), (701, (58, [I r205.2.fault.at_, I r205.2.fault.e, Sl a295 r205.2.rest c296, I r205.2.end_]))]⟩
        refine andH (Hold.of hS (bks := []) kr hD) ?_
        intro hH
        refine only 6 kr (by rfl) (lit (E := 49) (col := 0) (T := (tSlice tI)) (vals := [.slice a292 r205.1.length c293]) (ys := [r205.1]) T hS kr kr kr kr (by exact ⟨⟨a292, c293, rfl, h294⟩, trivial⟩) rfl kr kr kr kr ?_)
        intro b299 a w300 χ301 hE h302 hN hS
        clear hN
        replace hO := hO.mv hE rfl rfl
        replace hD := hD.ev hE rfl
        replace h192 := h192.mv hE rfl rfl
        replace h198 := h198.mv hE rfl
        replace h294 := h294.mv hE rfl
        replace h297 := h297.mv hE rfl
        clear hE
        replace h302 := h302.rs0
        refine andH (Hold.of hS (bks := []) kr hD) ?_
        intro hH
        exact H _ _ ⟨_, (some ⟨b299, 0, none⟩), 1, a295, c296, hS.sl _, hO, hD, hH, h192, h302, h297⟩
       ·have hq := hgp5
        refine oneOp (by rfl) (callR hS kr kr hb22 kr (k22 _ _ x_188 (⟨(⟨x_193, x_194⟩ : Dimacs_fault), x_195, x_199⟩ : Dimacs_reader) a196 c197 (ρ 701) 701 hq h198 (hS.cell (id := 701) (t := 58) (cs := [I x_193, I x_194, Sl a196 x_195 c197, I x_199]) kr) ⟨by decide, by decide⟩) ?_)
        intro v303 a w304 χ305 hE hp hS
        clear hq
        replace hO := hO.mv hE rfl rfl
        replace hD := hD.ev hE rfl
        replace h192 := h192.mv hE rfl rfl
        replace h198 := h198.mv hE rfl
        clear hE
        obtain ⟨a307, c308, a310, c311, hp, h309, h312, hc313⟩ := hp
        rw [hgr5] at hp h309 h312 hc313
        subst hp
        replace hS := hS.addbox (id := 701) (t := 58) (cs := [I r205.2.fault.at_, I r205.2.fault.e, Sl a310 r205.2.rest c311, I r205.2.end_]) kr hc313
        clear hc313
        replace hS := hS.sl ⟨[(0, Z s_), (2, Pt 3 0), (5, Pt 701 0), (6, I r139.1), (42, Pt 3 1), (44, Pt 701 0), (45, Pt 3 0), (46, I x_188), (47, Sl a307 r205.1 c308)], [(3, (25, [I x_188, Sl a190 x_189 c191])), (701, (58, [I r205.2.fault.at_, I r205.2.fault.e, Sl a310 r205.2.rest c311, I r205.2.end_]))]⟩
        refine andH (Hold.of hS (bks := []) kr hD) ?_
        intro hH
        refine anyOf (is := [1, 6]) kr (by decide) ?_
        intro i hi
        rcases mem2 hi with rfl | rfl
        ·refine oneOp (by rfl) (plain1 T hS kr kr kr (sv := Sl a190 x_189 c191) kr ?_)
         intro a hS
         refine andH (Hold.of hS (bks := []) kr hD) ?_
         intro hH
         refine only 6 kr (by rfl) (lit (E := 49) (col := 0) (T := (tSlice tI)) (vals := [.slice a307 r205.1.length c308]) (ys := [r205.1]) T hS kr kr kr kr (by exact ⟨⟨a307, c308, rfl, h309⟩, trivial⟩) rfl kr kr kr kr ?_)
         intro b314 a w315 χ316 hE h317 hN hS
         clear hN
         replace hO := hO.mv hE rfl rfl
         replace hD := hD.ev hE rfl
         replace h192 := h192.mv hE rfl rfl
         replace h198 := h198.mv hE rfl
         replace h309 := h309.mv hE rfl
         replace h312 := h312.mv hE rfl
         clear hE
         replace h317 := h317.rs0
         refine andH (Hold.of hS (bks := []) kr hD) ?_
         intro hH
         exact H _ _ ⟨_, (some ⟨b314, 0, none⟩), 1, a310, c311, hS.sl _, hO, hD, hH, h192, h317, h312⟩
        ·refine oneOp (by rfl) (lit (E := 49) (col := 0) (T := (tSlice tI)) (vals := [.slice a307 r205.1.length c308]) (ys := [r205.1]) T hS kr kr kr kr (by exact ⟨⟨a307, c308, rfl, h309⟩, trivial⟩) rfl kr kr kr kr ?_)
         intro b318 a w319 χ320 hE h321 hN hS
         clear hN
         replace hO := hO.mv hE rfl rfl
         replace hD := hD.ev hE rfl
         replace h192 := h192.mv hE rfl rfl
         replace h198 := h198.mv hE rfl
         replace h309 := h309.mv hE rfl
         replace h312 := h312.mv hE rfl
         clear hE
         replace h321 := h321.rs0
         refine andH (Hold.of hS (bks := []) kr hD) ?_
         intro hH
         refine only 1 kr (by rfl) (plain1 T hS kr kr kr (sv := Sl a190 x_189 c191) kr ?_)
         intro a hS
         refine andH (Hold.of hS (bks := []) kr hD) ?_
         intro hH
         exact H _ _ ⟨_, (some ⟨b318, 0, none⟩), 1, a310, c311, hS.sl _, hO, hD, hH, h192, h321, h312⟩
    ·replace hm := hm.2 hb
     refine wexit (by rfl) ?_
     exact ⟨ρ, _, x_188, x_189, x_193, x_194, x_195, x_199, a190, c191, a196, c197, hm, hS.sl _, hO, h192, h198⟩
  ·rintro a w334 ⟨ρ, χ333, x_144, x_145, x_149, x_150, x_151, x_155, a146, c147, a152, c153, hm, hS, hO, h148, h154⟩
   unfold VC8_J1 at hm
   refine wcut (fun a w => ∃ (ρ : Nat → Nat) (χ : Nat → Nat) (x_156 : List (List Int)) (x_160 : Int) (x_161 : Int) (x_162 : List Token_Token) (x_166 : Int) (a157 : Option Addr) (c158 : Nat) (a163 : Option Addr) (c164 : Nat), VC8_J2 s_ Q x_144 x_156 x_160 x_161 x_162 x_166 ∧ St Tryd.f8.ntmps ⟨[(0, Z s_), (2, Pt 3 0), (5, Pt 701 0)], [(3, (25, [I x_144, Sl a157 x_156 c158])), (701, (58, [I x_160, I x_161, Sl a163 x_162 c164, I x_166]))]⟩ ρ a w χ ∧ Old w0 χ0 w χ ∧ OS (tSlice tI) 49 w χ 1038 a157 x_156 c158 ∧ RS tToken_Token w χ a163 x_162 c164) ?_ ?_
   ·refine rP T hS ⟨[(0, Z s_), (2, Pt 3 0), (5, Pt 701 0), (64, B ((x_150 == 0) && (decide (((x_151.length : Nat) : Int) > 0))))], [(3, (25, [I x_144, Sl a146 x_145 c147])), (701, (58, [I x_149, I x_150, Sl a152 x_151 c153, I x_155]))]⟩ (sp := [57]) fun a hS => ?_
    refine wcond hS (b := ((x_150 == 0) && (decide (((x_151.length : Nat) : Int) > 0)))) kr (fun hb => ?_) (fun hb => ?_)
    ·replace hm := hm.1 hb
     refine region ?_
     refine oP T hS 5 ⟨[(0, Z s_), (2, Pt 3 0), (5, Pt 701 0), (65, Pt 701 0), (69, Sl a152 x_151 c153)], [(3, (25, [I x_144, Sl a146 x_145 c147])), (701, (58, [I x_149, I x_150, Sl a152 x_151 c153, I x_155]))]⟩ fun a hS => ?_
     obtain ⟨hq, hm⟩ := hm
     refine op1 (index (e := 44) (k := .i64) T hS kr kr kr kr h154 kr kr hq.1 hq.2 ?_)
     intro A175 a h176 hS
     clear hq
     refine op1 (loadA T hS kr kr kr h176 kr kr ?_)
     intro v177 a hv hS
     subst hv
     refine op1 (callR hS kr kr hb23 kr (k23 _ _ (gi x_151 0) 6 (⟨(⟨x_149, x_150⟩ : Dimacs_fault), x_151, x_155⟩ : Dimacs_reader) a152 c153 (ρ 701) 701 h154 (hS.cell (id := 701) (t := 58) (cs := [I x_149, I x_150, Sl a152 x_151 c153, I x_155]) kr) ⟨by decide, by decide⟩) ?_)
     intro v178 a w179 χ180 hE hp hS
     replace hO := hO.mv hE rfl rfl
     replace h148 := h148.mv hE rfl rfl
     replace h154 := h154.mv hE rfl
     replace h176 := h176.mv hE rfl
     clear hE
     obtain ⟨a182, c183, hp, h184, hc185⟩ := hp
     obtain ⟨r181, hr⟩ : ∃ r, dimacs_reader_wrong (gi x_151 0) 6 (⟨(⟨x_149, x_150⟩ : Dimacs_fault), x_151, x_155⟩ : Dimacs_reader) = r := ⟨_, rfl⟩
     replace hm := hm r181 hr
     rw [hr] at h184 hc185
     clear hr
     subst hp
     replace hm := hm (h184.sm kr)
     replace hS := hS.addbox (id := 701) (t := 58) (cs := [I r181.fault.at_, I r181.fault.e, Sl a182 r181.rest c183, I r181.end_]) kr hc185
     clear hc185
     refine doneK ?_
     exact ⟨ρ, _, x_145, r181.fault.at_, r181.fault.e, r181.rest, r181.end_, a146, c147, a182, c183, hm, hS.sl _, hO, h148, h184⟩
    ·replace hm := hm.2 hb
     refine wskip ?_
     exact ⟨ρ, _, x_145, x_149, x_150, x_151, x_155, a146, c147, a152, c153, hm, hS.sl _, hO, h148, h154⟩
   ·rintro a w187 ⟨ρ, χ186, x_156, x_160, x_161, x_162, x_166, a157, c158, a163, c164, hm, hS, hO, h159, h165⟩
    unfold VC8_J2 at hm
    refine wseq ?_
    refine rP T hS ⟨[(0, Z s_), (2, Pt 3 0), (5, Pt 701 0), (78, B (x_161 != 0))], [(3, (25, [I x_144, Sl a157 x_156 c158])), (701, (58, [I x_160, I x_161, Sl a163 x_162 c164, I x_166]))]⟩ fun a hS => ?_
    refine wcond hS (b := (x_161 != 0)) kr (fun hb => ?_) (fun hb => ?_)
    ·replace hm := hm.1 hb
     refine drawnSX [701] mixed hS ?_
     intro w167 χ168 hS hE hD hH
     replace hO := hO.mv hE rfl rfl
     replace h159 := h159.mv hE rfl rfl
     replace h165 := h165.mv hE rfl
     clear hE
     refine tk T [0, 1, 6, 2, 7, 3, 8, 4, 9, 5, 10] [701] hS hH #[true, true, true, true, true, true, true, true, true, true, true, false, false, false] 3 ⟨[(2, Pt 3 0), (79, V (.agg #[.int .i64 0, .slice none 0 0])), (84, I x_160), (89, I x_161)], [(3, (25, [I x_144, Sl a157 x_156 c158])), (701, (58, [I x_160, I x_161, Sl a163 x_162 c164, I x_166]))]⟩ fun a hS => ?_
     replace hS := hS.sl ⟨[(2, Pt 3 0), (79, V (.agg #[.int .i64 0, .slice none 0 0])), (84, I x_160), (89, I x_161)], [(3, (25, [I x_144, Sl a157 x_156 c158])), (701, (58, [I x_160, I x_161, Sl a163 x_162 c164, I x_166]))]⟩
     refine only 11 kr (by rfl) (store1 T hS kr kr (sy' := ⟨[(2, Pt 3 0), (79, V (.agg #[.int .i64 0, .slice none 0 0])), (84, I x_160), (89, I x_161)], [(3, (25, [I 0, V (.slice none 0 0)])), (3, (25, [I x_144, Sl a157 x_156 c158])), (701, (58, [I x_160, I x_161, Sl a163 x_162 c164, I x_166]))]⟩) kr ?_)
     intro a w169 χ170 hS hE
     replace hO := hO.mv hE rfl rfl
     replace hD := hD.ev hE rfl
     replace h159 := h159.mv hE rfl rfl
     replace h165 := h165.mv hE rfl
     clear hE
     replace hS := hS.sl ⟨[(2, Pt 3 0), (79, V (.agg #[.int .i64 0, .slice none 0 0])), (84, I x_160), (89, I x_161)], [(3, (25, [I 0, V (.slice none 0 0)])), (701, (58, [I x_160, I x_161, Sl a163 x_162 c164, I x_166]))]⟩
     refine andH (Hold.of hS (bks := [701]) kr hD) ?_
     intro hH
     refine tk T [12, 13] [701] hS hH #[true, true, true, true, true, true, true, true, true, true, true, true, true, true] 0 ⟨[(2, Pt 3 0), (3, I x_160), (4, I x_161)], [(3, (25, [I 0, V (.slice none 0 0)])), (701, (58, [I x_160, I x_161, Sl a163 x_162 c164, I x_166]))]⟩ fun a hS => ?_
     refine drawnDone kr ?_
     clear hD hH
     replace hS := hS.sl ⟨[(2, Pt 3 0), (3, I x_160), (4, I x_161)], [(3, (25, [I 0, V (.slice none 0 0)]))]⟩
     refine wret ?_
     exact fin T hS hO (fun c => c) rfl (r := [.agg #[.int .i64 0, .slice none 0 0], .int .i64 x_160, .int .i64 x_161]) kr (fun χ' hM hC => ⟨((⟨0, []⟩ : Api_Formula), x_160, x_161), hm, none, 0, rfl, RS.empty _ _ _⟩)
    ·replace hm := hm.2 hb
     refine wskip ?_
     refine rM T hS ⟨[(2, Pt 3 0), (3, I ((s_.length : Nat) : Int)), (4, I 0)], [(3, (25, [I x_144, Sl a157 x_156 c158]))]⟩ fun ρ a w173 χ174 hS hE hr => ?_
     replace hO := hO.mv hE rfl rfl
     replace h159 := h159.mv hE rfl rfl
     clear hE hr
     refine wret ?_
     obtain ⟨χ171, hE, hF⟩ := h159.freeze (by decide)
     replace hS := hS.ev hE (xone_box kr)
     replace hO := hO.mv hE rfl rfl
     have h172 := hF; clear hE hF
     exact fin T hS hO (fun c => c) rfl (r := [.agg #[.int .i64 x_144, .slice a157 x_156.length c158], .int .i64 ((s_.length : Nat) : Int), .int .i64 0]) kr (fun χ' hM hC => ⟨((⟨x_144, x_156⟩ : Api_Formula), ((s_.length : Nat) : Int), 0), hm, a157, c158, rfl, h172.m0 hM⟩)
theorem C8 (k19 : S19) (k20 : S20) (k21 : S21) (k22 : S22) (k23 : S23) (v : ∀ (s_ : List UInt8), VC8 s_ (fun r => r = dimacs_Parse s_)) : S8 := by
 intro w χ s_    
 refine (W8 k19 k20 k21 k22 k23 w χ s_    _ (v s_)).mono ?_
 rintro _ _ _ _ ⟨r, rfl, h⟩
 exact h
/-- replevin/dimacs.Head -/
theorem W14 (k28 : S28) (w0 : World) (χ0 : Nat → Nat) (vars : Int) (clauses : Int) (Q : (List UInt8) → Prop) (hm : VC14 vars clauses Q) (hAmb : Amb w0 χ0) :
  Ret Tryd.prog 14 #[.int .i64 vars, .int .i64 clauses] xnone w0 χ0 (fun w χ' v => ∃ r, Q r ∧ v = .string (bs r)) := by
 unfold VC14 at hm
 refine enter Tryd.func14 rfl (vals := [.int .i64 vars, .int .i64 clauses]) kr ?_
 intro ρ a hS hO hM
 replace hAmb := hAmb.m0 hM
 clear hM
 refine rP T hS ⟨[(0, I vars), (1, I clauses)], []⟩ fun a hS => ?_
 refine regO ?_
 refine oP T hS 1 ⟨[(1, I clauses), (5, I vars)], []⟩ fun a hS => ?_
 obtain ⟨hq, hm⟩ := hm
 refine op1 (call hS kr kr hb28 kr (fun _ _ => rfl) (k28 _ _ vars hq hAmb) ?_)
 intro v101 a w102 χ103 hE hp hS
 clear hq
 replace hO := hO.mv hE rfl rfl
 replace hAmb := hAmb.mv hE rfl
 clear hE
 obtain ⟨r104, hr⟩ : ∃ r, token_Digits vars = r := ⟨_, rfl⟩
 replace hm := hm r104 hr
 rw [hr] at hp
 clear hr
 subst hp
 obtain ⟨hq, hm⟩ := hm
 refine op1 (sadd (p := ([112, 32, 99, 110, 102, 32] : List UInt8)) (q := r104) hS kr kr kr kr hq ?_)
 intro a hS
 clear hq
 obtain ⟨hq, hm⟩ := hm
 refine op1 (sadd (p := (([112, 32, 99, 110, 102, 32] : List UInt8) ++ r104)) (q := ([32] : List UInt8)) hS kr kr kr kr hq ?_)
 intro a hS
 clear hq
 refine oP T hS 1 ⟨[(8, Z ((([112, 32, 99, 110, 102, 32] : List UInt8) ++ r104) ++ ([32] : List UInt8))), (9, I clauses)], []⟩ fun a hS => ?_
 obtain ⟨hq, hm⟩ := hm
 refine op1 (call hS kr kr hb28 kr (fun _ _ => rfl) (k28 _ _ clauses hq hAmb) ?_)
 intro v105 a w106 χ107 hE hp hS
 clear hq
 replace hO := hO.mv hE rfl rfl
 replace hAmb := hAmb.mv hE rfl
 clear hE
 obtain ⟨r108, hr⟩ : ∃ r, token_Digits clauses = r := ⟨_, rfl⟩
 replace hm := hm r108 hr
 rw [hr] at hp
 clear hr
 subst hp
 obtain ⟨hq, hm⟩ := hm
 refine op1 (sadd (p := ((([112, 32, 99, 110, 102, 32] : List UInt8) ++ r104) ++ ([32] : List UInt8))) (q := r108) hS kr kr kr kr hq ?_)
 intro a hS
 clear hq
 obtain ⟨hq, hm⟩ := hm
 refine op1 (sadd (p := (((([112, 32, 99, 110, 102, 32] : List UInt8) ++ r104) ++ ([32] : List UInt8)) ++ r108)) (q := ([10] : List UInt8)) hS kr kr kr kr hq ?_)
 intro a hS
 clear hq
 refine eP T hS ⟨[(4, Z ((((([112, 32, 99, 110, 102, 32] : List UInt8) ++ r104) ++ ([32] : List UInt8)) ++ r108) ++ ([10] : List UInt8)))], []⟩ fun a hS => ?_
 refine wret ?_
 exact fin T hS hO (fun c => c) rfl (r := [.string (bs ((((([112, 32, 99, 110, 102, 32] : List UInt8) ++ r104) ++ ([32] : List UInt8)) ++ r108) ++ ([10] : List UInt8)))]) kr (fun χ' hM hC => ⟨((((([112, 32, 99, 110, 102, 32] : List UInt8) ++ r104) ++ ([32] : List UInt8)) ++ r108) ++ ([10] : List UInt8)), hm, rfl⟩)
theorem C14 (k28 : S28) (v : ∀ (vars : Int) (clauses : Int), preHd vars clauses → VC14 vars clauses (fun r => r = dimacs_Head vars clauses)) : S14 := by
 intro w χ vars clauses    hp hAmb
 refine (W14 k28 w χ vars clauses    _ (v vars clauses hp) hAmb).mono ?_
 rintro _ _ _ _ ⟨r, rfl, h⟩
 exact h
/-- replevin/dimacs.Print -/
theorem W12 (k14 : S14) (k17 : S17) (k28 : S28) (w0 : World) (χ0 : Nat → Nat) (f_ : Api_Formula) (a1 : Option Addr) (c1 : Nat) (Q : (List UInt8) × Int → Prop) (hm : VC12 f_ Q) (h1 : RS (tSlice tI) w0 χ0 a1 f_.Clauses c1) (hAmb : Amb w0 χ0) :
  Ret Tryd.prog 12 #[.agg #[.int .i64 f_.Vars, .slice a1 f_.Clauses.length c1]] xnone w0 χ0 (fun w χ' v => ∃ r, Q r ∧ v = .tuple #[.string (bs r.1), .int .i64 r.2]) := by
 unfold VC12 at hm
 replace hm := hm (h1.sm kr)
 refine enter Tryd.func12 rfl (vals := [.agg #[.int .i64 f_.Vars, .slice a1 f_.Clauses.length c1]]) kr ?_
 intro ρ a hS hO hM
 replace h1 := h1.m0 hM
 replace hAmb := hAmb.m0 hM
 clear hM
 refine rM T hS ⟨[(1, Pt 2 0)], [(2, (25, [I f_.Vars, Sl a1 f_.Clauses c1]))]⟩ fun ρ a w176 χ177 hS hE hr => ?_
 replace hO := hO.mv hE rfl rfl
 replace h1 := h1.mv hE rfl
 replace hAmb := hAmb.mv hE rfl
 clear hE hr
 refine wseq ?_
 refine regO ?_
 refine oP T hS 1 ⟨[(1, Pt 2 0), (12, V (.agg #[.int .i64 f_.Vars, .slice a1 f_.Clauses.length c1]))], [(2, (25, [I f_.Vars, Sl a1 f_.Clauses c1]))]⟩ fun a hS => ?_
 refine op1 (call hS kr kr hb17 kr (fun _ _ => rfl) (k17 _ _ f_ a1 c1 h1) ?_)
 intro v101 a w102 χ103 hE hp hS
 replace hO := hO.mv hE rfl rfl
 replace h1 := h1.mv hE rfl
 replace hAmb := hAmb.mv hE rfl
 clear hE
 obtain ⟨r104, hr⟩ : ∃ r, cnf_Check f_ = r := ⟨_, rfl⟩
 replace hm := hm r104 hr
 rw [hr] at hp
 clear hr
 subst hp
 refine eP T hS ⟨[(1, Pt 2 0), (5, I r104.2)], [(2, (25, [I f_.Vars, Sl a1 f_.Clauses c1]))]⟩ fun a hS => ?_
 refine rP T hS ⟨[(1, Pt 2 0), (5, I r104.2), (17, B (r104.2 != 0))], [(2, (25, [I f_.Vars, Sl a1 f_.Clauses c1]))]⟩ fun a hS => ?_
 refine wcond hS (b := (r104.2 != 0)) kr (fun hb => ?_) (fun hb => ?_)
 ·replace hm := hm.1 hb
  refine rP T hS ⟨[(2, Z ([] : List UInt8)), (3, I r104.2)], []⟩ fun a hS => ?_
  refine wret ?_
  exact fin T hS hO (fun c => c) rfl (r := [.string (bs ([] : List UInt8)), .int .i64 r104.2]) kr (fun χ' hM hC => ⟨(([] : List UInt8), r104.2), hm, rfl⟩)
 ·replace hm := hm.2 hb
  refine wskip ?_
  refine regO ?_
  refine oP T hS 5 ⟨[(1, Pt 2 0), (20, I f_.Vars), (23, I ((f_.Clauses.length : Nat) : Int))], [(2, (25, [I f_.Vars, Sl a1 f_.Clauses c1]))]⟩ fun a hS => ?_
  obtain ⟨hq, hm⟩ := hm
  refine op1 (call hS kr kr hb14 kr (fun _ _ => rfl) (k14 _ _ f_.Vars ((f_.Clauses.length : Nat) : Int) hq hAmb) ?_)
  intro v105 a w106 χ107 hE hp hS
  clear hq
  replace hO := hO.mv hE rfl rfl
  replace h1 := h1.mv hE rfl
  replace hAmb := hAmb.mv hE rfl
  clear hE
  obtain ⟨r108, hr⟩ : ∃ r, dimacs_Head f_.Vars ((f_.Clauses.length : Nat) : Int) = r := ⟨_, rfl⟩
  replace hm := hm r108 hr
  rw [hr] at hp
  clear hr
  subst hp
  obtain ⟨hq, hm⟩ := hm
  refine op1 (cvtB (E := 5) (col := 1007) (s := r108) T hS kr kr kr kr kr kr kr hq ?_)
  intro a109 c110 a w111 χ112 hE h113 hS
  clear hq
  replace hO := hO.mv hE rfl rfl
  replace h1 := h1.mv hE rfl
  replace hAmb := hAmb.mv hE rfl
  clear hE
  refine eP T hS ⟨[(1, Pt 2 0), (6, Sl a109 (toI r108) c110)], [(2, (25, [I f_.Vars, Sl a1 f_.Clauses c1]))]⟩ fun a hS => ?_
  refine wcut (fun a w => ∃ (ρ : Nat → Nat) (χ : Nat → Nat) (out_114 : List Int) (a115 : Option Addr) (c116 : Nat), VC12_J1 Q out_114 ∧ St Tryd.f12.ntmps ⟨[(6, Sl a115 out_114 c116)], []⟩ ρ a w χ ∧ Old w0 χ0 w χ ∧ OS (tInt .u8 1) 5 w χ 1007 a115 out_114 c116 ∧ Amb w χ) ?_ ?_
  ·refine rP T hS ⟨[(6, Sl a109 (toI r108) c110), (27, Sl a1 f_.Clauses c1), (28, I ((f_.Clauses.length : Nat) : Int)), (29, I 0)], []⟩ fun a hS => ?_
   refine wblock ?_
   obtain ⟨I1, μ1, hm0, hm⟩ := hm
   refine wloop (σ := (List Int) × Int) (fun s a w => ∃ (ρ : Nat → Nat) (χ : Nat → Nat) (a119 : Option Addr) (c120 : Nat), I1 s.1 s.2 ∧ St Tryd.f12.ntmps ⟨[(6, Sl a119 s.1 c120), (27, Sl a1 f_.Clauses c1), (28, I ((f_.Clauses.length : Nat) : Int)), (29, I s.2)], []⟩ ρ a w χ ∧ Old w0 χ0 w χ ∧ OS (tInt .u8 1) 5 w χ 1007 a119 s.1 c120 ∧ RS (tSlice tI) w χ a1 f_.Clauses c1 ∧ Amb w χ) (fun s => μ1 s.1 s.2) (⟨toI r108, 0⟩) ?_ ?_
   ·exact ⟨ρ, _, a109, c110, hm0, hS.sl _, hO, h113, h1, hAmb⟩
   ·rintro ⟨out_118, x_123⟩ a w173 ⟨ρ, χ172, a119, c120, hI, hS, hO, h121, h122, hAmb⟩
    replace hm := hm out_118 x_123 hI
    clear hI hm0
    refine rP T hS ⟨[(6, Sl a119 out_118 c120), (27, Sl a1 f_.Clauses c1), (28, I ((f_.Clauses.length : Nat) : Int)), (29, I x_123), (30, B (decide (x_123 < ((f_.Clauses.length : Nat) : Int))))], []⟩ fun a hS => ?_
    refine wseq ?_
    refine wcond hS (b := decide (x_123 < ((f_.Clauses.length : Nat) : Int))) kr (fun hb => ?_) (fun hb => ?_)
    ·replace hm := hm.1 hb
     refine wskip ?_
     refine wseq ?_
     refine wblock ?_
     refine regO ?_
     obtain ⟨hq, hm⟩ := hm
     refine op1 (index (e := 49) (k := .i64) T hS kr kr kr kr h122 kr kr hq.1 hq.2 ?_)
     intro A124 a h125 hS
     clear hq
     refine op1 (load1 T hS kr kr kr h125 rfl kr ?_)
     intro v126 a hv hS
     obtain ⟨a127, c128, hv, h129⟩ := hv
     cases hv
     replace hm := hm (h129.sm kr)
     refine eP T hS ⟨[(6, Sl a119 out_118 c120), (8, Sl a127 (gi f_.Clauses x_123) c128), (27, Sl a1 f_.Clauses c1), (28, I ((f_.Clauses.length : Nat) : Int)), (29, I x_123)], []⟩ fun a hS => ?_
     refine wcut (fun a w => ∃ (ρ : Nat → Nat) (χ : Nat → Nat) (out_130 : List Int) (a131 : Option Addr) (c132 : Nat), VC12_J2 Q I1 μ1 out_118 x_123 out_130 ∧ St Tryd.f12.ntmps ⟨[(6, Sl a131 out_130 c132), (27, Sl a1 f_.Clauses c1), (28, I ((f_.Clauses.length : Nat) : Int)), (29, I x_123)], []⟩ ρ a w χ ∧ Old w0 χ0 w χ ∧ OS (tInt .u8 1) 5 w χ 1007 a131 out_130 c132 ∧ RS (tSlice tI) w χ a1 f_.Clauses c1 ∧ Amb w χ) ?_ ?_
     ·refine rP T hS ⟨[(6, Sl a119 out_118 c120), (27, Sl a1 f_.Clauses c1), (28, I ((f_.Clauses.length : Nat) : Int)), (29, I x_123), (33, Sl a127 (gi f_.Clauses x_123) c128), (34, I (((gi f_.Clauses x_123).length : Nat) : Int)), (35, I 0)], []⟩ fun a hS => ?_
      refine wblock ?_
      obtain ⟨I2, μ2, hm0, hm⟩ := hm
      refine wloop (σ := (List Int) × Int) (fun s a w => ∃ (ρ : Nat → Nat) (χ : Nat → Nat) (a141 : Option Addr) (c142 : Nat), I2 s.1 s.2 ∧ St Tryd.f12.ntmps ⟨[(6, Sl a141 s.1 c142), (27, Sl a1 f_.Clauses c1), (28, I ((f_.Clauses.length : Nat) : Int)), (29, I x_123), (33, Sl a127 (gi f_.Clauses x_123) c128), (34, I (((gi f_.Clauses x_123).length : Nat) : Int)), (35, I s.2)], []⟩ ρ a w χ ∧ Old w0 χ0 w χ ∧ OS (tInt .u8 1) 5 w χ 1007 a141 s.1 c142 ∧ RS (tSlice tI) w χ a1 f_.Clauses c1 ∧ RS tI w χ a127 (gi f_.Clauses x_123) c128 ∧ Amb w χ) (fun s => μ2 s.1 s.2) (⟨out_118, 0⟩) ?_ ?_
      ·exact ⟨ρ, _, a119, c120, hm0, hS.sl _, hO, h121, h122, h129, hAmb⟩
      ·rintro ⟨out_140, x_146⟩ a w169 ⟨ρ, χ168, a141, c142, hI, hS, hO, h143, h144, h145, hAmb⟩
       replace hm := hm out_140 x_146 hI
       clear hI hm0
       refine rP T hS ⟨[(6, Sl a141 out_140 c142), (27, Sl a1 f_.Clauses c1), (28, I ((f_.Clauses.length : Nat) : Int)), (29, I x_123), (33, Sl a127 (gi f_.Clauses x_123) c128), (34, I (((gi f_.Clauses x_123).length : Nat) : Int)), (35, I x_146), (36, B (decide (x_146 < (((gi f_.Clauses x_123).length : Nat) : Int))))], []⟩ fun a hS => ?_
       refine wseq ?_
       refine wcond hS (b := decide (x_146 < (((gi f_.Clauses x_123).length : Nat) : Int))) kr (fun hb => ?_) (fun hb => ?_)
       ·replace hm := hm.1 hb
        refine wskip ?_
        refine wseq ?_
        refine wblock ?_
        refine regO ?_
        obtain ⟨hq, hm⟩ := hm
        refine op1 (index (e := 3) (k := .i64) T hS kr kr kr kr h145 kr kr hq.1 hq.2 ?_)
        intro A147 a h148 hS
        clear hq
        refine op1 (load1 T hS kr kr kr h148 rfl kr ?_)
        intro v149 a hv hS
        cases hv
        refine eP T hS ⟨[(6, Sl a141 out_140 c142), (10, I (gi (gi f_.Clauses x_123) x_146)), (27, Sl a1 f_.Clauses c1), (28, I ((f_.Clauses.length : Nat) : Int)), (29, I x_123), (33, Sl a127 (gi f_.Clauses x_123) c128), (34, I (((gi f_.Clauses x_123).length : Nat) : Int)), (35, I x_146)], []⟩ fun a hS => ?_
        refine region ?_
        refine oP T hS 2 ⟨[(6, Sl a141 out_140 c142), (27, Sl a1 f_.Clauses c1), (28, I ((f_.Clauses.length : Nat) : Int)), (29, I x_123), (33, Sl a127 (gi f_.Clauses x_123) c128), (34, I (((gi f_.Clauses x_123).length : Nat) : Int)), (35, I x_146), (39, Sl a141 out_140 c142), (40, I (gi (gi f_.Clauses x_123) x_146))], []⟩ fun a hS => ?_
        obtain ⟨hq, hm⟩ := hm
        refine op1 (call hS kr kr hb28 kr (fun _ _ => rfl) (k28 _ _ (gi (gi f_.Clauses x_123) x_146) hq hAmb) ?_)
        intro v150 a w151 χ152 hE hp hS
        clear hq
        replace hO := hO.mv hE rfl rfl
        replace h143 := h143.mv hE rfl rfl
        replace h144 := h144.mv hE rfl
        replace h145 := h145.mv hE rfl
        replace hAmb := hAmb.mv hE rfl
        clear hE
        obtain ⟨r153, hr⟩ : ∃ r, token_Digits (gi (gi f_.Clauses x_123) x_146) = r := ⟨_, rfl⟩
        replace hm := hm r153 hr
        rw [hr] at hp
        clear hr
        subst hp
        obtain ⟨hq, hm⟩ := hm
        refine op1 (appendS (E := 5) (col := 1007) (xs := out_140) (s := r153) T hS kr kr kr kr h143 kr kr kr kr hq ?_)
        intro a157 c158 a w154 χ155 hE h156 hS
        clear hq
        clear h143
        replace hO := hO.mv hE rfl rfl
        replace h144 := h144.mv hE rfl
        replace h145 := h145.mv hE rfl
        replace hAmb := hAmb.mv hE rfl
        clear hE
        refine op1 (lit (E := 5) (col := 0) (T := (tInt .u8 1)) (vals := [.int .u8 32]) (ys := [32]) T hS kr kr kr kr (by exact ⟨rfl, trivial⟩) rfl kr kr kr kr ?_)
        intro b159 a w160 χ161 hE h162 hN hS
        clear hN
        replace hO := hO.mv hE rfl rfl
        replace h144 := h144.mv hE rfl
        replace h145 := h145.mv hE rfl
        replace hAmb := hAmb.mv hE rfl
        replace h156 := h156.mv hE rfl rfl
        clear hE
        replace h162 := h162.rs0
        obtain ⟨hq, hm⟩ := hm
        obtain ⟨news, hN⟩ := h162.src
        refine op1 (append (E := 5) (T := (tInt .u8 1)) (col := 1007) (xs := out_140 ++ toI r153) T hS kr kr kr kr h156 hN kr kr kr kr hq ?_)
        intro a166 c167 a w163 χ164 hE h165 hS
        clear hq hN
        clear h156
        replace hO := hO.mv hE rfl rfl
        replace h144 := h144.mv hE rfl
        replace h145 := h145.mv hE rfl
        replace hAmb := hAmb.mv hE rfl
        replace h162 := h162.mv hE rfl
        clear hE
        refine eP T hS ⟨[(6, Sl a166 ((out_140 ++ toI r153) ++ [32]) c167), (27, Sl a1 f_.Clauses c1), (28, I ((f_.Clauses.length : Nat) : Int)), (29, I x_123), (33, Sl a127 (gi f_.Clauses x_123) c128), (34, I (((gi f_.Clauses x_123).length : Nat) : Int)), (35, I x_146)], []⟩ fun a hS => ?_
        refine region (eP T hS ⟨[(6, Sl a166 ((out_140 ++ toI r153) ++ [32]) c167), (27, Sl a1 f_.Clauses c1), (28, I ((f_.Clauses.length : Nat) : Int)), (29, I x_123), (33, Sl a127 (gi f_.Clauses x_123) c128), (34, I (((gi f_.Clauses x_123).length : Nat) : Int)), (35, I (IntKind.i64.wrap (x_146 + 1)))], []⟩ fun a hS => ?_)
        exact ⟨⟨(out_140 ++ toI r153) ++ [32], IntKind.i64.wrap (x_146 + 1)⟩, ⟨ρ, _, a166, c167, hm.1, hS.sl _, hO, h165, h144, h145, hAmb⟩, hm.2⟩
       ·replace hm := hm.2 hb
        refine wexit (by rfl) ?_
        exact ⟨ρ, _, out_140, a141, c142, hm, hS.sl _, hO, h143, h144, hAmb⟩
     ·rintro a w171 ⟨ρ, χ170, out_130, a131, c132, hm, hS, hO, h133, h134, hAmb⟩
      unfold VC12_J2 at hm
      refine regO ?_
      refine oP T hS 1 ⟨[(6, Sl a131 out_130 c132), (27, Sl a1 f_.Clauses c1), (28, I ((f_.Clauses.length : Nat) : Int)), (29, I x_123), (46, Sl a131 out_130 c132)], []⟩ fun a hS => ?_
      obtain ⟨hq, hm⟩ := hm
      refine op1 (appendS (E := 5) (col := 1007) (xs := out_130) (s := ([48, 10] : List UInt8)) T hS kr kr kr kr h133 kr kr kr kr hq ?_)
      intro a138 c139 a w135 χ136 hE h137 hS
      clear hq
      clear h133
      replace hO := hO.mv hE rfl rfl
      replace h134 := h134.mv hE rfl
      replace hAmb := hAmb.mv hE rfl
      clear hE
      refine eP T hS ⟨[(6, Sl a138 (out_130 ++ toI ([48, 10] : List UInt8)) c139), (27, Sl a1 f_.Clauses c1), (28, I ((f_.Clauses.length : Nat) : Int)), (29, I x_123)], []⟩ fun a hS => ?_
      refine rP T hS ⟨[(6, Sl a138 (out_130 ++ toI ([48, 10] : List UInt8)) c139), (27, Sl a1 f_.Clauses c1), (28, I ((f_.Clauses.length : Nat) : Int)), (29, I x_123), (50, B (decide ((((out_130 ++ toI ([48, 10] : List UInt8)).length : Nat) : Int) > 1000000)))], []⟩ fun a hS => ?_
      refine wcond hS (b := decide ((((out_130 ++ toI ([48, 10] : List UInt8)).length : Nat) : Int) > 1000000)) kr (fun hb => ?_) (fun hb => ?_)
      ·replace hm := hm.1 hb
       refine rP T hS ⟨[(2, Z ([] : List UInt8)), (3, I 3)], []⟩ fun a hS => ?_
       refine wret ?_
       exact fin T hS hO (fun c => c) rfl (r := [.string (bs ([] : List UInt8)), .int .i64 3]) kr (fun χ' hM hC => ⟨(([] : List UInt8), 3), hm, rfl⟩)
      ·replace hm := hm.2 hb
       refine wskip ?_
       refine region (eP T hS ⟨[(6, Sl a138 (out_130 ++ toI ([48, 10] : List UInt8)) c139), (27, Sl a1 f_.Clauses c1), (28, I ((f_.Clauses.length : Nat) : Int)), (29, I (IntKind.i64.wrap (x_123 + 1)))], []⟩ fun a hS => ?_)
       exact ⟨⟨out_130 ++ toI ([48, 10] : List UInt8), IntKind.i64.wrap (x_123 + 1)⟩, ⟨ρ, _, a138, c139, hm.1, hS.sl _, hO, h137, h134, hAmb⟩, hm.2⟩
    ·replace hm := hm.2 hb
     refine wexit (by rfl) ?_
     exact ⟨ρ, _, out_118, a119, c120, hm, hS.sl _, hO, h121, hAmb⟩
  ·rintro a w175 ⟨ρ, χ174, out_114, a115, c116, hm, hS, hO, h117, hAmb⟩
   unfold VC12_J1 at hm
   refine regO ?_
   refine oP T hS 1 ⟨[(52, Sl a115 out_114 c116)], []⟩ fun a hS => ?_
   obtain ⟨news, hN⟩ := h117.src
   refine op1 (cvtS (b := 1) (ys := out_114) T hS kr kr kr kr kr hN ?_)
   intro a hS
   clear hN
   refine eP T hS ⟨[(2, Z (ofBytes out_114)), (3, I 0)], []⟩ fun a hS => ?_
   refine wret ?_
   exact fin T hS hO (fun c => c) rfl (r := [.string (bs (ofBytes out_114)), .int .i64 0]) kr (fun χ' hM hC => ⟨((ofBytes out_114), 0), hm, rfl⟩)
theorem C12 (k14 : S14) (k17 : S17) (k28 : S28) (v : ∀ (f_ : Api_Formula), VC12 f_ (fun r => r = dimacs_Print f_)) : S12 := by
 intro w χ f_ a1 c1   h1 hAmb
 refine (W12 k14 k17 k28 w χ f_ a1 c1   _ (v f_) h1 hAmb).mono ?_
 rintro _ _ _ _ ⟨r, rfl, h⟩
 exact h
/-- replevin/replevinlaw06.awake -/
theorem W7 (k10 : S10) (k12 : S12) (k14 : S14) (k8 : S8) (w0 : World) (χ0 : Nat → Nat) (Q : Bool → Prop) (hm : VC7 Q) (hAmb : Amb w0 χ0) :
  Ret Tryd.prog 7 #[] xnone w0 χ0 (fun w χ' v => ∃ r, Q r ∧ v = .bool r) := by
 unfold VC7 at hm
 refine enter Tryd.func7 rfl (vals := []) kr ?_
 intro ρ a hS hO hM
 replace hAmb := hAmb.m0 hM
 clear hM
 refine rP T hS ⟨[], []⟩ fun a hS => ?_
 refine regO ?_
 refine op1 (call hS kr kr hb8 kr (fun _ _ => rfl) (k8 _ _ ([99, 32, 111, 110, 101, 10, 112, 32, 99, 110, 102, 32, 50, 32, 50, 10, 49, 32, 45, 50, 32, 48, 32, 50, 10, 48, 10] : List UInt8)) ?_)
 intro v101 a w102 χ103 hE hp hS
 replace hO := hO.mv hE rfl rfl
 replace hAmb := hAmb.mv hE rfl
 clear hE
 obtain ⟨a105, c106, hp, h107⟩ := hp
 obtain ⟨r104, hr⟩ : ∃ r, dimacs_Parse ([99, 32, 111, 110, 101, 10, 112, 32, 99, 110, 102, 32, 50, 32, 50, 10, 49, 32, 45, 50, 32, 48, 32, 50, 10, 48, 10] : List UInt8) = r := ⟨_, rfl⟩
 replace hm := hm r104 hr
 rw [hr] at hp h107
 clear hr
 subst hp
 replace hm := hm (h107.sm kr)
 refine eM T hS ⟨[(1, Pt 2 0), (2, I r104.2.1), (3, I r104.2.2)], [(2, (25, [I r104.1.Vars, Sl a105 r104.1.Clauses c106]))]⟩ fun ρ a w150 χ151 hS hE hr => ?_
 replace hO := hO.mv hE rfl rfl
 replace hAmb := hAmb.mv hE rfl
 replace h107 := h107.mv hE rfl
 clear hE hr
 refine regO ?_
 refine op1 (call hS kr kr hb8 kr (fun _ _ => rfl) (k8 _ _ ([112, 32, 99, 110, 102, 32, 50, 32, 49, 10, 49, 32, 51, 32, 48] : List UInt8)) ?_)
 intro v108 a w109 χ110 hE hp hS
 replace hO := hO.mv hE rfl rfl
 replace hAmb := hAmb.mv hE rfl
 replace h107 := h107.mv hE rfl
 clear hE
 obtain ⟨a112, c113, hp, h114⟩ := hp
 obtain ⟨r111, hr⟩ : ∃ r, dimacs_Parse ([112, 32, 99, 110, 102, 32, 50, 32, 49, 10, 49, 32, 51, 32, 48] : List UInt8) = r := ⟨_, rfl⟩
 replace hm := hm r111 hr
 rw [hr] at hp h114
 clear hr
 subst hp
 replace hm := hm (h114.sm kr)
 refine eM T hS ⟨[(1, Pt 2 0), (2, I r104.2.1), (3, I r104.2.2), (5, I r111.2.1), (6, I r111.2.2)], [(2, (25, [I r104.1.Vars, Sl a105 r104.1.Clauses c106]))]⟩ fun ρ a w148 χ149 hS hE hr => ?_
 replace hO := hO.mv hE rfl rfl
 replace hAmb := hAmb.mv hE rfl
 replace h107 := h107.mv hE rfl
 clear hE hr
 refine regO ?_
 refine op1 (call hS kr kr hb8 kr (fun _ _ => rfl) (k8 _ _ ([112, 32, 99, 110, 102, 32, 50, 32, 49, 10, 49, 32, 45, 49, 32, 48] : List UInt8)) ?_)
 intro v115 a w116 χ117 hE hp hS
 replace hO := hO.mv hE rfl rfl
 replace hAmb := hAmb.mv hE rfl
 replace h107 := h107.mv hE rfl
 clear hE
 obtain ⟨a119, c120, hp, h121⟩ := hp
 obtain ⟨r118, hr⟩ : ∃ r, dimacs_Parse ([112, 32, 99, 110, 102, 32, 50, 32, 49, 10, 49, 32, 45, 49, 32, 48] : List UInt8) = r := ⟨_, rfl⟩
 replace hm := hm r118 hr
 rw [hr] at hp h121
 clear hr
 subst hp
 replace hm := hm (h121.sm kr)
 refine eM T hS ⟨[(1, Pt 2 0), (2, I r104.2.1), (3, I r104.2.2), (5, I r111.2.1), (6, I r111.2.2), (8, I r118.2.1), (9, I r118.2.2)], [(2, (25, [I r104.1.Vars, Sl a105 r104.1.Clauses c106]))]⟩ fun ρ a w146 χ147 hS hE hr => ?_
 replace hO := hO.mv hE rfl rfl
 replace hAmb := hAmb.mv hE rfl
 replace h107 := h107.mv hE rfl
 clear hE hr
 refine regO ?_
 refine oP T hS 1 ⟨[(1, Pt 2 0), (2, I r104.2.1), (3, I r104.2.2), (5, I r111.2.1), (6, I r111.2.2), (8, I r118.2.1), (9, I r118.2.2), (28, V (.agg #[.int .i64 r104.1.Vars, .slice a105 r104.1.Clauses.length c106]))], [(2, (25, [I r104.1.Vars, Sl a105 r104.1.Clauses c106]))]⟩ fun a hS => ?_
 refine op1 (call hS kr kr hb12 kr (fun _ _ => rfl) (k12 _ _ r104.1 a105 c106 h107 hAmb) ?_)
 intro v122 a w123 χ124 hE hp hS
 replace hO := hO.mv hE rfl rfl
 replace hAmb := hAmb.mv hE rfl
 replace h107 := h107.mv hE rfl
 clear hE
 obtain ⟨r125, hr⟩ : ∃ r, dimacs_Print r104.1 = r := ⟨_, rfl⟩
 replace hm := hm r125 hr
 rw [hr] at hp
 clear hr
 subst hp
 refine eP T hS ⟨[(1, Pt 2 0), (2, I r104.2.1), (3, I r104.2.2), (5, I r111.2.1), (6, I r111.2.2), (8, I r118.2.1), (9, I r118.2.2), (10, Z r125.1), (11, I r125.2)], [(2, (25, [I r104.1.Vars, Sl a105 r104.1.Clauses c106]))]⟩ fun a hS => ?_
 refine regO ?_
 refine oP T hS 7 ⟨[(1, Pt 2 0), (5, I r111.2.1), (6, I r111.2.2), (8, I r118.2.1), (9, I r118.2.2), (10, Z r125.1), (11, I r125.2), (38, B ((r104.2.2 == 0) && (r104.2.1 == 27)))], [(2, (25, [I r104.1.Vars, Sl a105 r104.1.Clauses c106]))]⟩ (sp := [34]) fun a hS => ?_
 rcases Bool.eq_false_or_eq_true ((r104.2.2 == 0) && (r104.2.1 == 27)) with hb | hb
 ·replace hS := hS.lit (t := 38) kr hb
  replace hm := hm.1 hb
  refine oP T hS 1 ⟨[(5, I r111.2.1), (6, I r111.2.2), (8, I r118.2.1), (9, I r118.2.2), (10, Z r125.1), (11, I r125.2), (38, B true), (39, V (.agg #[.int .i64 r104.1.Vars, .slice a105 r104.1.Clauses.length c106]))], []⟩ fun a hS => ?_
  refine op1 (lit (E := 3) (col := 0) (T := tI) (vals := [.int .i64 1, .int .i64 (-2)]) (ys := [1, (-2)]) T hS kr kr kr kr (by exact ⟨rfl, rfl, trivial⟩) rfl kr kr kr kr ?_)
  intro b126 a w127 χ128 hE h129 hN hS
  clear hN
  replace hO := hO.mv hE rfl rfl
  replace hAmb := hAmb.mv hE rfl
  replace h107 := h107.mv hE rfl
  clear hE
  replace h129 := h129.rs0
  refine op1 (lit (E := 3) (col := 0) (T := tI) (vals := [.int .i64 2]) (ys := [2]) T hS kr kr kr kr (by exact ⟨rfl, trivial⟩) rfl kr kr kr kr ?_)
  intro b130 a w131 χ132 hE h133 hN hS
  clear hN
  replace hO := hO.mv hE rfl rfl
  replace hAmb := hAmb.mv hE rfl
  replace h107 := h107.mv hE rfl
  replace h129 := h129.mv hE rfl
  clear hE
  replace h133 := h133.rs0
  refine op1 (lit (E := 49) (col := 0) (T := (tSlice tI)) (vals := [.slice (some ⟨b126, 0, none⟩) [1, (-2)].length 2, .slice (some ⟨b130, 0, none⟩) [2].length 1]) (ys := [[1, (-2)], [2]]) T hS kr kr kr kr (by exact ⟨⟨(some ⟨b126, 0, none⟩), 2, rfl, h129⟩, ⟨(some ⟨b130, 0, none⟩), 1, rfl, h133⟩, trivial⟩) rfl kr kr kr kr ?_)
  intro b134 a w135 χ136 hE h137 hN hS
  clear hN
  replace hO := hO.mv hE rfl rfl
  replace hAmb := hAmb.mv hE rfl
  replace h107 := h107.mv hE rfl
  replace h129 := h129.mv hE rfl
  replace h133 := h133.mv hE rfl
  clear hE
  replace h137 := h137.rs0
  refine oP T hS 1 ⟨[(5, I r111.2.1), (6, I r111.2.2), (8, I r118.2.1), (9, I r118.2.2), (10, Z r125.1), (11, I r125.2), (38, B true), (39, V (.agg #[.int .i64 r104.1.Vars, .slice a105 r104.1.Clauses.length c106])), (43, V (.agg #[.int .i64 2, .slice (some ⟨b134, 0, none⟩) [[1, (-2)], [2]].length 2]))], []⟩ fun a hS => ?_
  refine op1 (call hS kr kr hb10 kr (fun _ _ => rfl) (k10 _ _ r104.1 (⟨2, [[1, (-2)], [2]]⟩ : Api_Formula) a105 c106 (some ⟨b134, 0, none⟩) 2 h107 h137) ?_)
  intro v138 a w139 χ140 hE hp hS
  replace hO := hO.mv hE rfl rfl
  replace hAmb := hAmb.mv hE rfl
  replace h107 := h107.mv hE rfl
  replace h137 := h137.mv hE rfl
  clear hE
  obtain ⟨r141, hr⟩ : ∃ r, ref04_Same r104.1 (⟨2, [[1, (-2)], [2]]⟩ : Api_Formula) = r := ⟨_, rfl⟩
  replace hm := hm r141 hr
  rw [hr] at hp
  clear hr
  subst hp
  refine oP T hS 26 ⟨[(70, B ((((((r141 && (r111.2.1 == 12)) && (r111.2.2 == 7)) && (r118.2.1 == 12)) && (r118.2.2 == 11)) && (r125.2 == 0)) && (r125.1 == ([112, 32, 99, 110, 102, 32, 50, 32, 50, 10, 49, 32, 45, 50, 32, 48, 10, 50, 32, 48, 10] : List UInt8))))], []⟩ (sp := [46, 50, 54, 58, 62, 66]) fun a hS => ?_
  rcases Bool.eq_false_or_eq_true ((((((r141 && (r111.2.1 == 12)) && (r111.2.2 == 7)) && (r118.2.1 == 12)) && (r118.2.2 == 11)) && (r125.2 == 0)) && (r125.1 == ([112, 32, 99, 110, 102, 32, 50, 32, 50, 10, 49, 32, 45, 50, 32, 48, 10, 50, 32, 48, 10] : List UInt8))) with hb | hb
  ·replace hS := hS.lit (t := 70) kr hb
   replace hm := hm.1 hb
   obtain ⟨hq, hm⟩ := hm
   refine op1 (call hS kr kr hb14 kr (fun _ _ => rfl) (k14 _ _ 1 0 hq hAmb) ?_)
   intro v142 a w143 χ144 hE hp hS
   clear hq
   replace hO := hO.mv hE rfl rfl
   replace hAmb := hAmb.mv hE rfl
   clear hE
   obtain ⟨r145, hr⟩ : ∃ r, dimacs_Head 1 0 = r := ⟨_, rfl⟩
   replace hm := hm r145 hr
   rw [hr] at hp
   clear hr
   subst hp
   refine eP T hS ⟨[(0, B (r145 == ([112, 32, 99, 110, 102, 32, 49, 32, 48, 10] : List UInt8)))], []⟩ fun a hS => ?_
   refine wret ?_
   exact fin T hS hO (fun c => c) rfl (r := [.bool (r145 == ([112, 32, 99, 110, 102, 32, 49, 32, 48, 10] : List UInt8))]) kr (fun χ' hM hC => ⟨(r145 == ([112, 32, 99, 110, 102, 32, 49, 32, 48, 10] : List UInt8)), hm, rfl⟩)
  ·replace hS := hS.lit (t := 70) kr hb
   replace hm := hm.2 hb
   refine eP T hS ⟨[(0, B false)], []⟩ fun a hS => ?_
   refine wret ?_
   exact fin T hS hO (fun c => c) rfl (r := [.bool false]) kr (fun χ' hM hC => ⟨false, hm, rfl⟩)
 ·replace hS := hS.lit (t := 38) kr hb
  replace hm := hm.2 hb
  refine eP T hS ⟨[(0, B false)], []⟩ fun a hS => ?_
  refine wret ?_
  exact fin T hS hO (fun c => c) rfl (r := [.bool false]) kr (fun χ' hM hC => ⟨false, hm, rfl⟩)
theorem C7 (k10 : S10) (k12 : S12) (k14 : S14) (k8 : S8) (v : ∀ (_ : Unit), VC7 (fun r => r = law06_awake)) : S7 := by
 intro w χ     hAmb
 refine (W7 k10 k12 k14 k8 w χ     _ (v ()) hAmb).mono ?_
 rintro _ _ _ _ ⟨r, rfl, h⟩
 exact h
end Go.Proofs.YtancoeikfkebfaaDoor
