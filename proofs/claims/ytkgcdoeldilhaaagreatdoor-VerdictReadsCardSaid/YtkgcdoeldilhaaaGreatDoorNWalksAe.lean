/- Walks: each function returns what its condition asks. Condition: the contracts of its callees, handed in. -/
import Derived.Test.YtkgcdoeldilhaaaGreatDoorNWalksS
set_option linter.all false
namespace Go.Proofs.YtkgcdoeldilhaaaGreatDoor
open Go Go.Sv
set_option maxHeartbeats 1000000
theorem W46 (w0 : World) (χ0 : Nat → Nat) (s_ : List (List UInt8)) (v_ : List UInt8) (a1 : Option Addr) (c1 : Nat) (Q : Int → Prop) (hm : VC46 s_ v_ Q) (h1 : RS tStr w0 χ0 a1 s_ c1) :
  Ret Tryz.prog 46 #[.slice a1 s_.length c1, .string (bs v_)] xnone w0 χ0 (fun w χ' v => ∃ r, Q r ∧ v = .int .i64 r) := by
 unfold VC46 at hm
 replace hm := hm (h1.sm kr)
 refine enter Tryz.func46 rfl (vals := [.slice a1 s_.length c1, .string (bs v_)]) kr ?_
 intro ρ a hS hO hM
 replace h1 := h1.m0 hM
 clear hM
 refine rP T hS ⟨[(0, Sl a1 s_ c1), (1, Z v_)], []⟩ fun a hS => ?_
 refine wcut (fun a w => ∃ (ρ : Nat → Nat) (χ : Nat → Nat), VC46_J1 Q ∧ St Tryz.f46.ntmps ⟨[], []⟩ ρ a w χ ∧ Old w0 χ0 w χ) ?_ ?_
 ·refine rP T hS ⟨[(0, Sl a1 s_ c1), (1, Z v_), (7, I (lN s_)), (8, I 0)], []⟩ fun a hS => ?_
  refine wblock ?_
  obtain ⟨I1, μ1, hm0, hm⟩ := hm
  refine wloop (σ := Int) (fun s a w => ∃ (ρ : Nat → Nat) (χ : Nat → Nat), I1 s ∧ St Tryz.f46.ntmps ⟨[(0, Sl a1 s_ c1), (1, Z v_), (7, I (lN s_)), (8, I s)], []⟩ ρ a w χ ∧ Old w0 χ0 w χ ∧ RS tStr w χ a1 s_ c1) (fun s => μ1 s) (0) ?_ ?_
  ·exact ⟨ρ, _, hm0, hS.sl _, hO, h1⟩
  rintro x_102 a w107 ⟨ρ, χ106, hI, hS, hO, h101⟩
  replace hm := hm x_102 hI
  clear hI hm0
  refine rP T hS ⟨[(0, Sl a1 s_ c1), (1, Z v_), (7, I (lN s_)), (8, I x_102), (9, B (decide (x_102 < (lN s_))))], []⟩ fun a hS => ?_
  refine wseq ?_
  refine wcond hS (b := decide (x_102 < (lN s_))) kr (fun hb => ?_) (fun hb => ?_)
  ·replace hm := hm.1 hb
   refine wskip (wseq ?_)
   refine wblock ?_
   refine rP T hS ⟨[(0, Sl a1 s_ c1), (1, Z v_), (5, I x_102), (7, I (lN s_)), (8, I x_102)], []⟩ fun a hS => ?_
   refine regO ?_
   refine oP T hS 3 ⟨[(0, Sl a1 s_ c1), (1, Z v_), (5, I x_102), (7, I (lN s_)), (8, I x_102), (11, Z v_), (12, Sl a1 s_ c1), (13, I x_102)], []⟩ fun a hS => ?_
   obtain ⟨hq, hm⟩ := hm
   refine op1 (index (e := 9) (k := .i64) T hS kr kr kr kr h101 kr kr hq.1 hq.2 ?_)
   intro A103 a h104 hS
   refine op1 (load1 T hS kr kr kr h104 rfl kr ?_)
   intro v105 a hv hS
   cases hv
   refine eP T hS ⟨[(0, Sl a1 s_ c1), (1, Z v_), (5, I x_102), (7, I (lN s_)), (8, I x_102), (16, B (v_ == (gi s_ x_102)))], []⟩ fun a hS => ?_
   refine wcond hS (b := (v_ == (gi s_ x_102))) kr (fun hb => ?_) (fun hb => ?_)
   ·replace hm := hm.1 hb
    refine rP T hS ⟨[(4, I x_102)], []⟩ fun a hS => ?_
    refine wret ?_
    exact fin T hS hO (fun c => c) rfl (r := [.int .i64 x_102]) kr (fun χ' hM hC => ⟨x_102, hm, rfl⟩)
   replace hm := hm.2 hb
   refine wskip ?_
   refine region (eP T hS ⟨[(0, Sl a1 s_ c1), (1, Z v_), (7, I (lN s_)), (8, I (wR (x_102 + 1)))], []⟩ fun a hS => ?_)
   exact ⟨wR (x_102 + 1), ⟨ρ, _, hm.1, hS.sl _, hO, h101⟩, hm.2⟩
  replace hm := hm.2 hb
  refine wexit (by rfl) ?_
  exact ⟨ρ, _, hm, hS.sl _, hO⟩
 rintro a w109 ⟨ρ, χ108, hm, hS, hO⟩
 unfold VC46_J1 at hm
 refine rP T hS ⟨[(4, I (-1))], []⟩ fun a hS => ?_
 refine wret ?_
 exact fin T hS hO (fun c => c) rfl (r := [.int .i64 (-1)]) kr (fun χ' hM hC => ⟨(-1), hm, rfl⟩)
theorem C46 (v : ∀ (s_ : List (List UInt8)) (v_ : List UInt8), VC46 s_ v_ (fun r => r = slices_Index_string_string s_ v_)) : S46 := by
 intro w χ s_ v_ a1 c1   h1
 refine (W46 w χ s_ v_ a1 c1   _ (v s_ v_) h1).mono ?_
 rintro _ _ _ _ ⟨r, rfl, h⟩
 exact h
theorem W18 (k22 : S22) (k43 : S43) (k46 : S46) (k47 : S47) (w0 : World) (χ0 : Nat → Nat) (cap1 : Verdict_reader) (a1 : Option Addr) (c1 : Nat) (b1 : Nat) (i1 : Nat) (Q : Int × (List Int) × Verdict_reader → Prop) (hm : VC18 cap1 Q) (h1 : RS (tSlice tToken_Token) w0 χ0 a1 cap1.rest c1) (hc1 : Cell w0 χ0 b1 i1 49 [.slice a1 cap1.rest.length c1, .int .i64 cap1.end_, .int .i64 cap1.at_, .int .i64 cap1.e]) (hA : Apart [i1]) :
  Ret Tryz.prog 18 #[.pointer (some ⟨b1, 0, none⟩)] (pR [i1]) w0 χ0 (fun w χ' v => ∃ r, Q r ∧ ∃ (ra1 : Option Addr) (rc1 : Nat) (ra2 : Option Addr) (rc2 : Nat), v = .tuple #[.int .i64 r.1, .slice ra1 r.2.1.length rc1] ∧ RS tI w χ' ra1 r.2.1 rc1 ∧ RS (tSlice tToken_Token) w χ' ra2 r.2.2.rest rc2 ∧ Cell w χ' b1 i1 49 [.slice ra2 r.2.2.rest.length rc2, .int .i64 r.2.2.end_, .int .i64 r.2.2.at_, .int .i64 r.2.2.e]) := by
 unfold VC18 at hm
 replace hm := hm (h1.sm kr)
 refine enterR Tryz.func18 rfl (f0of [(i1, 901)]) (fun id => (bif Nat.beq id 901 then b1 else 0)) (args := [Pt 901 0]) (bxs := [(901, (49, [Sl a1 cap1.rest c1, I cap1.end_, I cap1.at_, I cap1.e]))]) kr rfl (BoxesOK.cons kr (hc1.map (f0of_at 0 hA.1 rfl)) BoxesOK.nil) (f0of_0 (fun q hq => (hA.2 q.1 (List.mem_map.2 ⟨q, hq, rfl⟩)).1)) ?_
 intro a hS hO hM
 have hP : Pin [(901, b1)] (fun id => (bif Nat.beq id 901 then b1 else 0)) := by intro q hq; simp at hq; rcases hq with rfl <;> rfl
 generalize (fun id => (bif Nat.beq id 901 then b1 else 0)) = ρ at hS hP
 clear hc1
 replace h1 := h1.m0 hM
 clear hM
 refine rP T hS ⟨[(0, Pt 901 0)], [(901, (49, [Sl a1 cap1.rest c1, I cap1.end_, I cap1.at_, I cap1.e]))]⟩ fun a hS => ?_
 refine regO ?_
 refine oP T hS 1 ⟨[(0, Pt 901 0), (8, Pt 901 0)], [(901, (49, [Sl a1 cap1.rest c1, I cap1.end_, I cap1.at_, I cap1.e]))]⟩ fun a hS => ?_
 refine op1 (callR hS kr kr hb22 kr (k22 _ _ cap1 a1 c1 (ρ 901) 901 h1 (hS.cell (id := 901) (t := 49) (cs := [Sl a1 cap1.rest c1, I cap1.end_, I cap1.at_, I cap1.e]) kr) ⟨by decide, by decide⟩) ?_)
 intro v101 a w102 χ103 hE hp hS
 replace hO := hO.mv hE rfl rfl
 replace h1 := h1.mv hE rfl
 obtain ⟨a105, c106, a108, c109, hp, h107, h110, hc111⟩ := hp
 obtain ⟨r104, hr⟩ : ∃ r, verdict_reader_next cap1 = r := ⟨_, rfl⟩
 replace hm := hm r104 hr
 rw [hr] at hp h107 h110 hc111
 clear hr
 subst hp
 replace hm := hm (h107.sm kr)
 replace hm := hm (h110.sm kr)
 replace hS := hS.addbox (id := 901) (t := 49) (cs := [Sl a108 r104.2.rest c109, I r104.2.end_, I r104.2.at_, I r104.2.e]) kr hc111
 clear hc111
 refine eP T hS ⟨[(0, Pt 901 0), (4, Sl a105 r104.1 c106)], [(901, (49, [Sl a108 r104.2.rest c109, I r104.2.end_, I r104.2.at_, I r104.2.e]))]⟩ fun a hS => ?_
 refine wseq (rP T hS ⟨[(0, Pt 901 0), (4, Sl a105 r104.1 c106), (12, B ((lN r104.1) == 0))], [(901, (49, [Sl a108 r104.2.rest c109, I r104.2.end_, I r104.2.at_, I r104.2.e]))]⟩ fun a hS => ?_)
 refine wcond hS (b := ((lN r104.1) == 0)) kr (fun hb => ?_) (fun hb => ?_)
 ·replace hm := hm.1 hb
  refine rM T hS ⟨[], [(901, (49, [Sl a108 r104.2.rest c109, I r104.2.end_, I r104.2.end_, I 4]))]⟩ fun ρ a w112 χ113 hS hE hr => ?_
  replace hO := hO.mv hE rfl rfl
  replace h110 := h110.mv hE rfl
  replace hP := hP.mv hr kr
  clear hE hr
  refine rP T hS ⟨[(2, I 0), (3, V (.slice none 0 0))], [(901, (49, [Sl a108 r104.2.rest c109, I r104.2.end_, I r104.2.end_, I 4]))]⟩ fun a hS => ?_
  refine wret ?_
  exact finR T hS hO (fun c h => f0of_zero kr h) (fun c h => f0of_else (l := [(i1, 901)]) h) (f1of [(i1, 901)]) rfl (r := [.int .i64 0, .slice none 0 0]) kr (fun χ' hM hC => ⟨(0, [], (⟨r104.2.rest, r104.2.end_, r104.2.end_, 4⟩ : Verdict_reader)), hm, none, 0, a108, c109, rfl, RS.empty _ _ _, h110.m0 hM, ((hS.cell (id := 901) (t := 49) (cs := [Sl a108 r104.2.rest c109, I r104.2.end_, I r104.2.end_, I 4]) kr).out (f := (f1of [(i1, 901)])) hC kr kr (hP.at 0 rfl))⟩)
 replace hm := hm.2 hb
 refine wskip ?_
 refine drawnSX [901] mixed hS ?_
 intro w114 χ115 hS hE hD hH
 replace hO := hO.mv hE rfl rfl
 replace h107 := h107.mv hE rfl
 replace h110 := h110.mv hE rfl
 refine tk T [1] [901] hS hH #[false, true, false, false, false, false, false, false] 7 ⟨[(0, Pt 901 0), (4, Sl a105 r104.1 c106), (24, Sl a105 r104.1 c106)], [(901, (49, [Sl a108 r104.2.rest c109, I r104.2.end_, I r104.2.at_, I r104.2.e]))]⟩ fun a hS => ?_
 obtain ⟨hq, hm⟩ := hm
 refine dindex (e := 60) (k := .i64) T 2 hS kr kr kr (by rfl) kr hH kr kr h107 kr kr hq.1 hq.2 ?_
 intro A116 a h117 hS
 have h117b := h117.here
 refine dfieldA (off := 2) (fsz := 1) (ft := 9) (TF := tStr) (y := (gi r104.1 0).Text) 3 T hS kr kr kr (by rfl) kr hH kr h117 kr kr kr (fun cs h => Token_Token_f2 h) ?_
 intro A118 a h119 hbl hS
 have h119b := h117b
 rw [← hbl] at h119b
 clear hbl
 refine dload1 T 4 hS kr kr kr (by rfl) kr hH kr h119 h119b rfl kr ?_
 intro v120 a hv hS
 cases hv
 refine only 0 kr (by rfl) (call hS kr kr hb43 kr (fun _ _ => rfl) (k43 _ _) ?_)
 intro v121 a w122 χ123 hE hp hS
 replace hO := hO.mv hE rfl rfl
 replace hD := hD.ev hE rfl
 replace h107 := h107.mv hE rfl
 replace h110 := h110.mv hE rfl
 replace h117 := h117.mv hE rfl
 replace h119 := h119.mv hE rfl
 obtain ⟨a125, c126, hp, h127⟩ := hp
 obtain ⟨r124, hr⟩ : ∃ r, verdict_words = r := ⟨_, rfl⟩
 replace hm := hm r124 hr
 rw [hr] at hp h127
 clear hr
 subst hp
 replace hm := hm (h127.sm kr)
 replace hS := hS.sl ⟨[(0, Pt 901 0), (4, Sl a105 r104.1 c106), (24, Sl a105 r104.1 c106), (25, V (.pointer (some A116))), (26, V (.pointer (some A118))), (27, Z ((gi r104.1 0).Text)), (23, Sl a125 r124 c126)], [(901, (49, [Sl a108 r104.2.rest c109, I r104.2.end_, I r104.2.at_, I r104.2.e]))]⟩
 refine andH (Hold.of hS (bks := [901]) kr hD) ?_
 intro hH
 refine only 5 kr (by rfl) (call hS kr kr hb46 kr (fun _ _ => rfl) (k46 _ _ r124 ((gi r104.1 0).Text) a125 c126 h127) ?_)
 intro v128 a w129 χ130 hE hp hS
 replace hO := hO.mv hE rfl rfl
 replace hD := hD.ev hE rfl
 replace h107 := h107.mv hE rfl
 replace h110 := h110.mv hE rfl
 replace h117 := h117.mv hE rfl
 replace h119 := h119.mv hE rfl
 replace h127 := h127.mv hE rfl
 obtain ⟨r131, hr⟩ : ∃ r, slices_Index_string_string r124 ((gi r104.1 0).Text) = r := ⟨_, rfl⟩
 replace hm := hm r131 hr
 rw [hr] at hp
 clear hr
 subst hp
 replace hS := hS.sl ⟨[(0, Pt 901 0), (4, Sl a105 r104.1 c106), (24, Sl a105 r104.1 c106), (25, V (.pointer (some A116))), (26, V (.pointer (some A118))), (27, Z ((gi r104.1 0).Text)), (23, Sl a125 r124 c126), (28, I r131)], [(901, (49, [Sl a108 r104.2.rest c109, I r104.2.end_, I r104.2.at_, I r104.2.e]))]⟩
 refine andH (Hold.of hS (bks := [901]) kr hD) ?_
 intro hH
 refine tk T [6, 7] [901] hS hH #[true, true, true, true, true, true, true, true] 0 ⟨[(0, Pt 901 0), (4, Sl a105 r104.1 c106), (5, I (wR (r131 + 1)))], [(901, (49, [Sl a108 r104.2.rest c109, I r104.2.end_, I r104.2.at_, I r104.2.e]))]⟩ fun a hS => ?_
 refine drawnDone kr ?_
 clear hD hH
 replace hS := hS.sl ⟨[(0, Pt 901 0), (4, Sl a105 r104.1 c106), (5, I (wR (r131 + 1)))], [(901, (49, [Sl a108 r104.2.rest c109, I r104.2.end_, I r104.2.at_, I r104.2.e]))]⟩
 refine wseq (rP T hS ⟨[(0, Pt 901 0), (4, Sl a105 r104.1 c106), (5, I (wR (r131 + 1))), (31, B ((wR (r131 + 1)) == 0))], [(901, (49, [Sl a108 r104.2.rest c109, I r104.2.end_, I r104.2.at_, I r104.2.e]))]⟩ fun a hS => ?_)
 refine wcond hS (b := ((wR (r131 + 1)) == 0)) kr (fun hb => ?_) (fun hb => ?_)
 ·replace hm := hm.1 hb
  refine regO ?_
  refine oP T hS 3 ⟨[(32, Pt 901 0), (33, Pt 901 0), (34, Sl a105 r104.1 c106)], [(901, (49, [Sl a108 r104.2.rest c109, I r104.2.end_, I r104.2.at_, I r104.2.e]))]⟩ fun a hS => ?_
  obtain ⟨hq, hm⟩ := hm
  refine op1 (index (e := 60) (k := .i64) T hS kr kr kr kr h107 kr kr hq.1 hq.2 ?_)
  intro A132 a h133 hS
  refine op1 (fieldA (off := 1) (fsz := 1) (ft := 3) (TF := tI) (y := (gi r104.1 0).At) T hS kr kr kr h133 kr kr kr (fun cs h => Token_Token_f1 h) ?_)
  intro A134 a h135 hS
  refine op1 (load1 T hS kr kr kr h135 rfl kr ?_)
  intro v136 a hv hS
  cases hv
  refine eM T hS ⟨[], [(901, (49, [Sl a108 r104.2.rest c109, I r104.2.end_, I ((gi r104.1 0).At), I 8]))]⟩ fun ρ a w137 χ138 hS hE hr => ?_
  replace hO := hO.mv hE rfl rfl
  replace h110 := h110.mv hE rfl
  replace hP := hP.mv hr kr
  clear hE hr
  refine rP T hS ⟨[(2, I 0), (3, V (.slice none 0 0))], [(901, (49, [Sl a108 r104.2.rest c109, I r104.2.end_, I ((gi r104.1 0).At), I 8]))]⟩ fun a hS => ?_
  refine wret ?_
  exact finR T hS hO (fun c h => f0of_zero kr h) (fun c h => f0of_else (l := [(i1, 901)]) h) (f1of [(i1, 901)]) rfl (r := [.int .i64 0, .slice none 0 0]) kr (fun χ' hM hC => ⟨(0, [], (⟨r104.2.rest, r104.2.end_, (gi r104.1 0).At, 8⟩ : Verdict_reader)), hm, none, 0, a108, c109, rfl, RS.empty _ _ _, h110.m0 hM, ((hS.cell (id := 901) (t := 49) (cs := [Sl a108 r104.2.rest c109, I r104.2.end_, I ((gi r104.1 0).At), I 8]) kr).out (f := (f1of [(i1, 901)])) hC kr kr (hP.at 0 rfl))⟩)
 replace hm := hm.2 hb
 refine wskip ?_
 refine rP T hS ⟨[(0, Pt 901 0), (4, Sl a105 r104.1 c106), (5, I (wR (r131 + 1))), (6, V (.slice none 0 0)), (7, V (.slice none 0 0))], [(901, (49, [Sl a108 r104.2.rest c109, I r104.2.end_, I r104.2.at_, I r104.2.e]))]⟩ fun a hS => ?_
 refine wcut (fun a w => ∃ (ρ : Nat → Nat) (χ : Nat → Nat) (lo_140 : List Int) (hi_144 : List Int) (a141 : Option Addr) (c142 : Nat) (a145 : Option Addr) (c146 : Nat), VC18_J1 Q r104 r131 lo_140 hi_144 ∧ St Tryz.f18.ntmps ⟨[(0, Pt 901 0), (4, Sl a105 r104.1 c106), (5, I (wR (r131 + 1))), (6, Sl a141 lo_140 c142), (7, Sl a145 hi_144 c146)], [(901, (49, [Sl a108 r104.2.rest c109, I r104.2.end_, I r104.2.at_, I r104.2.e]))]⟩ ρ a w χ ∧ OldR (f0of [(i1, 901)]) w0 χ0 w χ ∧ Pin [(901, b1)] ρ ∧ RS tToken_Token w χ a105 r104.1 c106 ∧ RS tI w χ a141 lo_140 c142 ∧ RS tI w χ a145 hi_144 c146 ∧ RS (tSlice tToken_Token) w χ a108 r104.2.rest c109) ?_ ?_
 ·refine rP T hS ⟨[(0, Pt 901 0), (4, Sl a105 r104.1 c106), (5, I (wR (r131 + 1))), (6, V (.slice none 0 0)), (7, V (.slice none 0 0)), (42, I (wR (r131 + 1)))], [(901, (49, [Sl a108 r104.2.rest c109, I r104.2.end_, I r104.2.at_, I r104.2.e]))]⟩ fun a hS => ?_
  refine wblock ?_
  refine rP T hS ⟨[(0, Pt 901 0), (4, Sl a105 r104.1 c106), (5, I (wR (r131 + 1))), (6, V (.slice none 0 0)), (7, V (.slice none 0 0)), (42, I (wR (r131 + 1))), (43, B ((wR (r131 + 1)) == 1))], [(901, (49, [Sl a108 r104.2.rest c109, I r104.2.end_, I r104.2.at_, I r104.2.e]))]⟩ fun a hS => ?_
  refine wcond hS (b := ((wR (r131 + 1)) == 1)) kr (fun hb => ?_) (fun hb => ?_)
  ·replace hm := hm.1 hb
   refine region ?_
   refine op1 (lit (E := 3) (col := 0) (T := tI) (vals := [.int .i64 0, .int .i64 1]) (ys := [0, 1]) T hS kr kr kr kr (by exact ⟨rfl, rfl, trivial⟩) rfl kr kr kr kr ?_)
   intro b165 a w166 χ167 hE h168 hN hS
   clear hN
   replace hO := hO.mv hE rfl rfl
   replace h107 := h107.mv hE rfl
   replace h110 := h110.mv hE rfl
   replace h168 := h168.rs0
   refine op1 (lit (E := 3) (col := 0) (T := tI) (vals := [.int .i64 1000000, .int .i64 99]) (ys := [1000000, 99]) T hS kr kr kr kr (by exact ⟨rfl, rfl, trivial⟩) rfl kr kr kr kr ?_)
   intro b169 a w170 χ171 hE h172 hN hS
   clear hN
   replace hO := hO.mv hE rfl rfl
   replace h107 := h107.mv hE rfl
   replace h110 := h110.mv hE rfl
   replace h168 := h168.mv hE rfl
   replace h172 := h172.rs0
   refine eP T hS ⟨[(0, Pt 901 0), (4, Sl a105 r104.1 c106), (5, I (wR (r131 + 1))), (6, Sl (some ⟨b165, 0, none⟩) [0, 1] 2), (7, Sl (some ⟨b169, 0, none⟩) [1000000, 99] 2)], [(901, (49, [Sl a108 r104.2.rest c109, I r104.2.end_, I r104.2.at_, I r104.2.e]))]⟩ fun a hS => ?_
   exact ⟨ρ, _, [0, 1], [1000000, 99], (some ⟨b165, 0, none⟩), 2, (some ⟨b169, 0, none⟩), 2, hm, hS.sl _, hO, hP, h107, h168, h172, h110⟩
  replace hm := hm.2 hb
  refine rP T hS ⟨[(0, Pt 901 0), (4, Sl a105 r104.1 c106), (5, I (wR (r131 + 1))), (6, V (.slice none 0 0)), (7, V (.slice none 0 0)), (47, B ((wR (r131 + 1)) == 4))], [(901, (49, [Sl a108 r104.2.rest c109, I r104.2.end_, I r104.2.at_, I r104.2.e]))]⟩ fun a hS => ?_
  refine wcond hS (b := ((wR (r131 + 1)) == 4)) kr (fun hb => ?_) (fun hb => ?_)
  ·replace hm := hm.1 hb
   refine region ?_
   refine op1 (lit (E := 3) (col := 0) (T := tI) (vals := [.int .i64 0]) (ys := [0]) T hS kr kr kr kr (by exact ⟨rfl, trivial⟩) rfl kr kr kr kr ?_)
   intro b173 a w174 χ175 hE h176 hN hS
   clear hN
   replace hO := hO.mv hE rfl rfl
   replace h107 := h107.mv hE rfl
   replace h110 := h110.mv hE rfl
   replace h176 := h176.rs0
   refine op1 (lit (E := 3) (col := 0) (T := tI) (vals := [.int .i64 64]) (ys := [64]) T hS kr kr kr kr (by exact ⟨rfl, trivial⟩) rfl kr kr kr kr ?_)
   intro b177 a w178 χ179 hE h180 hN hS
   clear hN
   replace hO := hO.mv hE rfl rfl
   replace h107 := h107.mv hE rfl
   replace h110 := h110.mv hE rfl
   replace h176 := h176.mv hE rfl
   replace h180 := h180.rs0
   refine eP T hS ⟨[(0, Pt 901 0), (4, Sl a105 r104.1 c106), (5, I (wR (r131 + 1))), (6, Sl (some ⟨b173, 0, none⟩) [0] 1), (7, Sl (some ⟨b177, 0, none⟩) [64] 1)], [(901, (49, [Sl a108 r104.2.rest c109, I r104.2.end_, I r104.2.at_, I r104.2.e]))]⟩ fun a hS => ?_
   exact ⟨ρ, _, [0], [64], (some ⟨b173, 0, none⟩), 1, (some ⟨b177, 0, none⟩), 1, hm, hS.sl _, hO, hP, h107, h176, h180, h110⟩
  replace hm := hm.2 hb
  refine wskip ?_
  exact ⟨ρ, _, [], [], none, 0, none, 0, hm, hS.sl _, hO, hP, h107, (RS.empty _ _ _), (RS.empty _ _ _), h110⟩
 rintro a w182 ⟨ρ, χ181, lo_140, hi_144, a141, c142, a145, c146, hm, hS, hO, hP, h139, h143, h147, h148⟩
 unfold VC18_J1 at hm
 refine regO ?_
 refine oP T hS 4 ⟨[(6, Sl a141 lo_140 c142), (7, Sl a145 hi_144 c146), (51, I (wR (r131 + 1))), (52, Pt 901 0), (53, Sl a105 r104.1 c106), (54, Sl a105 r104.1 c106)], [(901, (49, [Sl a108 r104.2.rest c109, I r104.2.end_, I r104.2.at_, I r104.2.e]))]⟩ fun a hS => ?_
 obtain ⟨hq, hm⟩ := hm
 refine op1 (index (e := 60) (k := .i64) T hS kr kr kr kr h139 kr kr hq.1 hq.2 ?_)
 intro A149 a h150 hS
 refine op1 (fieldA (off := 2) (fsz := 1) (ft := 9) (TF := tStr) (y := (gi r104.1 0).Text) T hS kr kr kr h150 kr kr kr (fun cs h => Token_Token_f2 h) ?_)
 intro A151 a h152 hS
 refine op1 (load1 T hS kr kr kr h152 rfl kr ?_)
 intro v153 a hv hS
 cases hv
 refine oP T hS 2 ⟨[(51, I (wR (r131 + 1))), (52, Pt 901 0), (53, Sl a105 r104.1 c106), (57, Z ((gi r104.1 0).Text)), (58, Sl a141 lo_140 c142), (59, Sl a145 hi_144 c146)], [(901, (49, [Sl a108 r104.2.rest c109, I r104.2.end_, I r104.2.at_, I r104.2.e]))]⟩ fun a hS => ?_
 obtain ⟨hq, hm⟩ := hm
 refine op1 (callR hS kr kr hb47 kr (k47 _ _ r104.1 ((gi r104.1 0).Text) lo_140 hi_144 (⟨r104.2.rest, r104.2.end_, r104.2.at_, r104.2.e⟩ : Verdict_reader) a105 c106 a141 c142 a145 c146 a108 c109 (ρ 901) 901 hq h139 h143 h147 h148 (hS.cell (id := 901) (t := 49) (cs := [Sl a108 r104.2.rest c109, I r104.2.end_, I r104.2.at_, I r104.2.e]) kr) ⟨by decide, by decide⟩) ?_)
 intro v154 a w155 χ156 hE hp hS
 replace hO := hO.mv hE rfl rfl
 replace h139 := h139.mv hE rfl
 replace h143 := h143.mv hE rfl
 replace h147 := h147.mv hE rfl
 replace h148 := h148.mv hE rfl
 obtain ⟨a158, c159, a161, c162, hp, h160, h163, hc164⟩ := hp
 obtain ⟨r157, hr⟩ : ∃ r, verdict_reader_numbers r104.1 ((gi r104.1 0).Text) lo_140 hi_144 (⟨r104.2.rest, r104.2.end_, r104.2.at_, r104.2.e⟩ : Verdict_reader) = r := ⟨_, rfl⟩
 replace hm := hm r157 hr
 rw [hr] at hp h160 h163 hc164
 clear hr
 subst hp
 replace hm := hm (h160.sm kr)
 replace hm := hm (h163.sm kr)
 replace hS := hS.addbox (id := 901) (t := 49) (cs := [Sl a161 r157.2.rest c162, I r157.2.end_, I r157.2.at_, I r157.2.e]) kr hc164
 clear hc164
 refine eP T hS ⟨[(2, I (wR (r131 + 1))), (3, Sl a158 r157.1 c159)], [(901, (49, [Sl a161 r157.2.rest c162, I r157.2.end_, I r157.2.at_, I r157.2.e]))]⟩ fun a hS => ?_
 refine wret ?_
 exact finR T hS hO (fun c h => f0of_zero kr h) (fun c h => f0of_else (l := [(i1, 901)]) h) (f1of [(i1, 901)]) rfl (r := [.int .i64 (wR (r131 + 1)), .slice a158 r157.1.length c159]) kr (fun χ' hM hC => ⟨(wR (r131 + 1), r157.1, r157.2), hm, a158, c159, a161, c162, rfl, h160.m0 hM, h163.m0 hM, ((hS.cell (id := 901) (t := 49) (cs := [Sl a161 r157.2.rest c162, I r157.2.end_, I r157.2.at_, I r157.2.e]) kr).out (f := (f1of [(i1, 901)])) hC kr kr (hP.at 0 rfl))⟩)
theorem C18 (k22 : S22) (k43 : S43) (k46 : S46) (k47 : S47) (v : ∀ (cap1 : Verdict_reader), preRdH cap1 → VC18 cap1 (fun r => r = verdict_reader_head cap1)) : S18 := by
 intro w χ cap1 a1 c1  b1 i1 hp h1 hc1 hA
 refine (W18 k22 k43 k46 k47 w χ cap1 a1 c1  b1 i1 _ (v cap1 hp) h1 hc1 hA).mono ?_
 rintro _ _ _ _ ⟨r, rfl, h⟩
 exact h
theorem W20 (k17 : S17) (w0 : World) (χ0 : Nat → Nat) (s_ : List UInt8) (Q : Int → Prop) (hm : VC20 s_ Q) :
  Ret Tryz.prog 20 #[.string (bs s_)] xnone w0 χ0 (fun w χ' v => ∃ r, Q r ∧ v = .int .i64 r) := by
 unfold VC20 at hm
 refine enter Tryz.func20 rfl (vals := [.string (bs s_)]) kr ?_
 intro ρ a hS hO hM
 clear hM
 refine rP T hS ⟨[(0, Z s_)], []⟩ fun a hS => ?_
 refine rP T hS ⟨[(0, Z s_), (3, I 0)], []⟩ fun a hS => ?_
 refine wcut (fun a w => ∃ (ρ : Nat → Nat) (χ : Nat → Nat) (at_101 : Int), VC20_J1 Q at_101 ∧ St Tryz.f20.ntmps ⟨[(3, I at_101)], []⟩ ρ a w χ ∧ Old w0 χ0 w χ) ?_ ?_
 ·refine regO ?_
  refine oP T hS 1 ⟨[(0, Z s_), (3, I 0), (7, Z s_)], []⟩ fun a hS => ?_
  obtain ⟨hq, hm⟩ := hm
  refine op1 (call hS kr kr hb17 kr (fun _ _ => rfl) (k17 _ _ s_ hq) ?_)
  intro v102 a w103 χ104 hE hp hS
  replace hO := hO.mv hE rfl rfl
  obtain ⟨a106, c107, hp, h108⟩ := hp
  obtain ⟨r105, hr⟩ : ∃ r, token_Lines s_ = r := ⟨_, rfl⟩
  replace hm := hm r105 hr
  rw [hr] at hp h108
  clear hr
  subst hp
  replace hm := hm (h108.sm kr)
  refine eP T hS ⟨[(0, Z s_), (3, I 0), (8, Sl a106 r105 c107), (9, I (lN r105)), (10, I 0)], []⟩ fun a hS => ?_
  refine wblock ?_
  obtain ⟨I1, μ1, hm0, hm⟩ := hm
  refine wloop (σ := Int × Int) (fun s a w => ∃ (ρ : Nat → Nat) (χ : Nat → Nat), I1 s.1 s.2 ∧ St Tryz.f20.ntmps ⟨[(0, Z s_), (3, I s.1), (8, Sl a106 r105 c107), (9, I (lN r105)), (10, I s.2)], []⟩ ρ a w χ ∧ Old w0 χ0 w χ ∧ RS (tSlice tToken_Token) w χ a106 r105 c107) (fun s => μ1 s.1 s.2) (⟨0, 0⟩) ?_ ?_
  ·exact ⟨ρ, _, hm0, hS.sl _, hO, h108⟩
  rintro ⟨at_109, x_111⟩ a w134 ⟨ρ, χ133, hI, hS, hO, h110⟩
  replace hm := hm at_109 x_111 hI
  clear hI hm0
  refine rP T hS ⟨[(0, Z s_), (3, I at_109), (8, Sl a106 r105 c107), (9, I (lN r105)), (10, I x_111), (11, B (decide (x_111 < (lN r105))))], []⟩ fun a hS => ?_
  refine wseq ?_
  refine wcond hS (b := decide (x_111 < (lN r105))) kr (fun hb => ?_) (fun hb => ?_)
  ·replace hm := hm.1 hb
   refine wskip (wseq ?_)
   refine wblock ?_
   refine regO ?_
   obtain ⟨hq, hm⟩ := hm
   refine op1 (index (e := 57) (k := .i64) T hS kr kr kr kr h110 kr kr hq.1 hq.2 ?_)
   intro A112 a h113 hS
   refine op1 (load1 T hS kr kr kr h113 rfl kr ?_)
   intro v114 a hv hS
   obtain ⟨a115, c116, hv, h117⟩ := hv
   cases hv
   replace hm := hm (h117.sm kr)
   refine eP T hS ⟨[(0, Z s_), (3, I at_109), (5, Sl a115 (gi r105 x_111) c116), (8, Sl a106 r105 c107), (9, I (lN r105)), (10, I x_111)], []⟩ fun a hS => ?_
   refine rP T hS ⟨[(0, Z s_), (5, Sl a115 (gi r105 x_111) c116), (6, I at_109), (8, Sl a106 r105 c107), (9, I (lN r105)), (10, I x_111)], []⟩ fun a hS => ?_
   refine wcut (fun a w => ∃ (ρ : Nat → Nat) (χ : Nat → Nat) (end_119 : Int), VC20_J2 s_ Q r105 I1 μ1 at_109 x_111 end_119 ∧ St Tryz.f20.ntmps ⟨[(0, Z s_), (5, Sl a115 (gi r105 x_111) c116), (6, I end_119), (8, Sl a106 r105 c107), (9, I (lN r105)), (10, I x_111)], []⟩ ρ a w χ ∧ Old w0 χ0 w χ ∧ RS tToken_Token w χ a115 (gi r105 x_111) c116 ∧ RS (tSlice tToken_Token) w χ a106 r105 c107) ?_ ?_
   ·refine wblock ?_
    obtain ⟨I2, μ2, hm0, hm⟩ := hm
    refine wloop (σ := Int) (fun s a w => ∃ (ρ : Nat → Nat) (χ : Nat → Nat), I2 s ∧ St Tryz.f20.ntmps ⟨[(0, Z s_), (5, Sl a115 (gi r105 x_111) c116), (6, I s), (8, Sl a106 r105 c107), (9, I (lN r105)), (10, I x_111)], []⟩ ρ a w χ ∧ Old w0 χ0 w χ ∧ RS tToken_Token w χ a115 (gi r105 x_111) c116 ∧ RS (tSlice tToken_Token) w χ a106 r105 c107) (fun s => μ2 s) (at_109) ?_ ?_
    ·exact ⟨ρ, _, hm0, hS.sl _, hO, h117, h110⟩
    rintro end_122 a w130 ⟨ρ, χ129, hI, hS, hO, h121, h123⟩
    replace hm := hm end_122 hI
    clear hI hm0
    refine wseq ?_
    refine wcut (fun a w => ∃ (ρ : Nat → Nat) (χ : Nat → Nat) (x_126 : Bool), VC20_J3 s_ Q r105 I1 μ1 at_109 x_111 I2 μ2 end_122 x_126 ∧ St Tryz.f20.ntmps ⟨[(0, Z s_), (5, Sl a115 (gi r105 x_111) c116), (6, I end_122), (8, Sl a106 r105 c107), (9, I (lN r105)), (10, I x_111), (24, B x_126)], []⟩ ρ a w χ ∧ Old w0 χ0 w χ ∧ RS tToken_Token w χ a115 (gi r105 x_111) c116 ∧ RS (tSlice tToken_Token) w χ a106 r105 c107) ?_ ?_
    ·refine region ?_
     refine oP T hS 5 ⟨[(0, Z s_), (5, Sl a115 (gi r105 x_111) c116), (6, I end_122), (8, Sl a106 r105 c107), (9, I (lN r105)), (10, I x_111), (19, B (decide (end_122 < (lN s_))))], []⟩ fun a hS => ?_
     rcases Bool.eq_false_or_eq_true (decide (end_122 < (lN s_))) with hb | hb
     ·replace hS := hS.lit (t := 19) kr hb
      replace hm := hm.1 hb
      refine oP T hS 2 ⟨[(0, Z s_), (5, Sl a115 (gi r105 x_111) c116), (6, I end_122), (8, Sl a106 r105 c107), (9, I (lN r105)), (10, I x_111), (19, B true), (20, Z s_), (21, I end_122)], []⟩ fun a hS => ?_
      obtain ⟨hq, hm⟩ := hm
      refine op1 (sindex (k := .i64) T hS kr kr kr kr kr hq.1 hq.2 ?_)
      intro a hS
      refine eP T hS ⟨[(0, Z s_), (5, Sl a115 (gi r105 x_111) c116), (6, I end_122), (8, Sl a106 r105 c107), (9, I (lN r105)), (10, I x_111), (20, Z s_), (21, I end_122), (22, V (.int .u8 ((gi s_ end_122).toNat : Int))), (23, B (((gi s_ end_122).toNat : Int) != 10)), (24, B (((gi s_ end_122).toNat : Int) != 10))], []⟩ fun a hS => ?_
      exact ⟨ρ, _, (((gi s_ end_122).toNat : Int) != 10), hm, hS.sl _, hO, h121, h123⟩
     replace hS := hS.lit (t := 19) kr hb
     replace hm := hm.2 hb
     refine eP T hS ⟨[(0, Z s_), (5, Sl a115 (gi r105 x_111) c116), (6, I end_122), (8, Sl a106 r105 c107), (9, I (lN r105)), (10, I x_111), (24, B false)], []⟩ fun a hS => ?_
     exact ⟨ρ, _, false, hm, hS.sl _, hO, h121, h123⟩
    rintro a w128 ⟨ρ, χ127, x_126, hm, hS, hO, h124, h125⟩
    unfold VC20_J3 at hm
    refine wcond hS (b := x_126) kr (fun hb => ?_) (fun hb => ?_)
    ·replace hm := hm.1 hb
     refine wskip ?_
     refine wblock ?_
     refine region (eP T hS ⟨[(0, Z s_), (5, Sl a115 (gi r105 x_111) c116), (6, I (wR (end_122 + 1))), (8, Sl a106 r105 c107), (9, I (lN r105)), (10, I x_111)], []⟩ fun a hS => ?_)
     exact ⟨wR (end_122 + 1), ⟨ρ, _, hm.1, hS.sl _, hO, h124, h125⟩, hm.2⟩
    replace hm := hm.2 hb
    refine wexit (by rfl) ?_
    exact ⟨ρ, _, end_122, hm, hS.sl _, hO, h124, h125⟩
   rintro a w132 ⟨ρ, χ131, end_119, hm, hS, hO, h118, h120⟩
   unfold VC20_J2 at hm
   refine rP T hS ⟨[(0, Z s_), (3, I (if (lN s_) < (wR (end_119 + 1)) then (lN s_) else (wR (end_119 + 1)))), (5, Sl a115 (gi r105 x_111) c116), (8, Sl a106 r105 c107), (9, I (lN r105)), (10, I x_111)], []⟩ fun a hS => ?_
   refine rP T hS ⟨[(0, Z s_), (3, I (if (lN s_) < (wR (end_119 + 1)) then (lN s_) else (wR (end_119 + 1)))), (8, Sl a106 r105 c107), (9, I (lN r105)), (10, I x_111), (34, B (decide ((lN (gi r105 x_111)) > 0)))], []⟩ fun a hS => ?_
   refine wcond hS (b := decide ((lN (gi r105 x_111)) > 0)) kr (fun hb => ?_) (fun hb => ?_)
   ·replace hm := hm.1 hb
    refine rP T hS ⟨[(2, I (if (lN s_) < (wR (end_119 + 1)) then (lN s_) else (wR (end_119 + 1))))], []⟩ fun a hS => ?_
    refine wret ?_
    exact fin T hS hO (fun c => c) rfl (r := [.int .i64 (if (lN s_) < (wR (end_119 + 1)) then (lN s_) else (wR (end_119 + 1)))]) kr (fun χ' hM hC => ⟨(if (lN s_) < (wR (end_119 + 1)) then (lN s_) else (wR (end_119 + 1))), hm, rfl⟩)
   replace hm := hm.2 hb
   refine wskip ?_
   refine region (eP T hS ⟨[(0, Z s_), (3, I (if (lN s_) < (wR (end_119 + 1)) then (lN s_) else (wR (end_119 + 1)))), (8, Sl a106 r105 c107), (9, I (lN r105)), (10, I (wR (x_111 + 1)))], []⟩ fun a hS => ?_)
   exact ⟨⟨if (lN s_) < (wR (end_119 + 1)) then (lN s_) else (wR (end_119 + 1)), wR (x_111 + 1)⟩, ⟨ρ, _, hm.1, hS.sl _, hO, h120⟩, hm.2⟩
  replace hm := hm.2 hb
  refine wexit (by rfl) ?_
  exact ⟨ρ, _, at_109, hm, hS.sl _, hO⟩
 rintro a w136 ⟨ρ, χ135, at_101, hm, hS, hO⟩
 unfold VC20_J1 at hm
 refine rP T hS ⟨[(2, I at_101)], []⟩ fun a hS => ?_
 refine wret ?_
 exact fin T hS hO (fun c => c) rfl (r := [.int .i64 at_101]) kr (fun χ' hM hC => ⟨at_101, hm, rfl⟩)
theorem C20 (k17 : S17) (v : ∀ (s_ : List UInt8), len1 s_ → VC20 s_ (fun r => r = verdict_behind s_)) : S20 := by
 intro w χ s_    hp 
 refine (W20 k17 w χ s_    _ (v s_ hp)).mono ?_
 rintro _ _ _ _ ⟨r, rfl, h⟩
 exact h
theorem W6 (k17 : S17) (k18 : S18) (k19 : S19) (k20 : S20) (k21 : S21) (k22 : S22) (w0 : World) (χ0 : Nat → Nat) (s_ : List UInt8) (Q : Api_Verdict × Int × Int → Prop) (hm : VC6 s_ Q) :
  Ret Tryz.prog 6 #[.string (bs s_)] xnone w0 χ0 (fun w χ' v => ∃ r, Q r ∧ ∃ (ra1 : Option Addr) (rc1 : Nat) (ra2 : Option Addr) (rc2 : Nat), v = .tuple #[.agg #[.int .i64 r.1.Kind, .int .i64 r.1.At, .int .i64 r.1.Err, .slice ra1 r.1.Picks.length rc1, .slice ra2 r.1.Proof.length rc2], .int .i64 r.2.1, .int .i64 r.2.2] ∧ RS tApi_Pick w χ' ra1 r.1.Picks rc1 ∧ RS tApi_Step w χ' ra2 r.1.Proof rc2) := by
 unfold VC6 at hm
 refine enter Tryz.func6 rfl (vals := [.string (bs s_)]) kr ?_
 intro ρ a hS hO hM
 clear hM
 refine rM T hS ⟨[(0, Z s_), (2, Pt 3 0)], [(3, (27, [I 0, I 0, I 0, V (.slice none 0 0), V (.slice none 0 0)]))]⟩ fun ρ a w226 χ227 hS hE hr => ?_
 replace hO := hO.mv hE rfl rfl
 clear hE hr
 refine wseq (rP T hS ⟨[(0, Z s_), (2, Pt 3 0), (16, B (decide ((lN s_) > 1000000)))], [(3, (27, [I 0, I 0, I 0, V (.slice none 0 0), V (.slice none 0 0)]))]⟩ fun a hS => ?_)
 refine wcond hS (b := decide ((lN s_) > 1000000)) kr (fun hb => ?_) (fun hb => ?_)
 ·replace hm := hm.1 hb
  refine rM T hS ⟨[(2, Pt 3 0), (3, I 0), (4, I 3)], [(3, (27, [I 0, I 0, I 0, V (.slice none 0 0), V (.slice none 0 0)]))]⟩ fun ρ a w101 χ102 hS hE hr => ?_
  replace hO := hO.mv hE rfl rfl
  clear hE hr
  refine wret ?_
  exact fin T hS hO (fun c => c) rfl (r := [.agg #[.int .i64 0, .int .i64 0, .int .i64 0, .slice none 0 0, .slice none 0 0], .int .i64 0, .int .i64 3]) kr (fun χ' hM hC => ⟨((⟨0, 0, 0, [], []⟩ : Api_Verdict), 0, 3), hm, none, 0, none, 0, rfl, RS.empty _ _ _, RS.empty _ _ _⟩)
 replace hm := hm.2 hb
 refine wskip ?_
 refine regO ?_
 refine oP T hS 1 ⟨[(0, Z s_), (2, Pt 3 0), (18, Z s_)], [(3, (27, [I 0, I 0, I 0, V (.slice none 0 0), V (.slice none 0 0)]))]⟩ fun a hS => ?_
 obtain ⟨hq, hm⟩ := hm
 refine op1 (call hS kr kr hb17 kr (fun _ _ => rfl) (k17 _ _ s_ hq) ?_)
 intro v103 a w104 χ105 hE hp hS
 replace hO := hO.mv hE rfl rfl
 obtain ⟨a107, c108, hp, h109⟩ := hp
 obtain ⟨r106, hr⟩ : ∃ r, token_Lines s_ = r := ⟨_, rfl⟩
 replace hm := hm r106 hr
 rw [hr] at hp h109
 clear hr
 subst hp
 replace hm := hm (h109.sm kr)
 refine eM T hS ⟨[(0, Z s_), (2, Pt 3 0), (5, Pt 24 0)], [(3, (27, [I 0, I 0, I 0, V (.slice none 0 0), V (.slice none 0 0)])), (24, (49, [Sl a107 r106 c108, I (lN s_), I 0, I 0]))]⟩ fun ρ a w224 χ225 hS hE hr => ?_
 replace hO := hO.mv hE rfl rfl
 replace h109 := h109.mv hE rfl
 clear hE hr
 refine regO ?_
 refine oP T hS 1 ⟨[(0, Z s_), (2, Pt 3 0), (5, Pt 24 0), (25, Pt 24 0)], [(3, (27, [I 0, I 0, I 0, V (.slice none 0 0), V (.slice none 0 0)])), (24, (49, [Sl a107 r106 c108, I (lN s_), I 0, I 0]))]⟩ fun a hS => ?_
 obtain ⟨hq, hm⟩ := hm
 refine op1 (callR hS kr kr hb18 kr (k18 _ _ (⟨r106, (lN s_), 0, 0⟩ : Verdict_reader) a107 c108 (ρ 24) 24 hq h109 (hS.cell (id := 24) (t := 49) (cs := [Sl a107 r106 c108, I (lN s_), I 0, I 0]) kr) ⟨by decide, by decide⟩) ?_)
 intro v110 a w111 χ112 hE hp hS
 replace hO := hO.mv hE rfl rfl
 replace h109 := h109.mv hE rfl
 obtain ⟨a114, c115, a117, c118, hp, h116, h119, hc120⟩ := hp
 obtain ⟨r113, hr⟩ : ∃ r, verdict_reader_head (⟨r106, (lN s_), 0, 0⟩ : Verdict_reader) = r := ⟨_, rfl⟩
 replace hm := hm r113 hr
 rw [hr] at hp h116 h119 hc120
 clear hr
 subst hp
 replace hm := hm (h116.sm kr)
 replace hm := hm (h119.sm kr)
 replace hS := hS.addbox (id := 24) (t := 49) (cs := [Sl a117 r113.2.2.rest c118, I r113.2.2.end_, I r113.2.2.at_, I r113.2.2.e]) kr hc120
 clear hc120
 refine eP T hS ⟨[(0, Z s_), (2, Pt 3 0), (5, Pt 24 0), (6, I r113.1), (7, Sl a114 r113.2.1 c115)], [(3, (27, [I 0, I 0, I 0, V (.slice none 0 0), V (.slice none 0 0)])), (24, (49, [Sl a117 r113.2.2.rest c118, I r113.2.2.end_, I r113.2.2.at_, I r113.2.2.e]))]⟩ fun a hS => ?_
 refine rM T hS ⟨[(0, Z s_), (2, Pt 3 0), (5, Pt 24 0), (6, I r113.1), (7, Sl a114 r113.2.1 c115), (8, Pt 9 0)], [(3, (27, [I 0, I 0, I 0, V (.slice none 0 0), V (.slice none 0 0)])), (9, (27, [I r113.1, I 0, I 0, V (.slice none 0 0), V (.slice none 0 0)])), (24, (49, [Sl a117 r113.2.2.rest c118, I r113.2.2.end_, I r113.2.2.at_, I r113.2.2.e]))]⟩ fun ρ a w222 χ223 hS hE hr => ?_
 replace hO := hO.mv hE rfl rfl
 replace h116 := h116.mv hE rfl
 replace h119 := h119.mv hE rfl
 clear hE hr
 refine wcut (fun a w => ∃ (ρ : Nat → Nat) (χ : Nat → Nat) (x_121 : Int) (x_122 : Int) (x_123 : List Api_Pick) (x_127 : List Api_Step) (x_131 : List (List Token_Token)) (x_135 : Int) (x_136 : Int) (x_137 : Int) (a124 : Option Addr) (c125 : Nat) (a128 : Option Addr) (c129 : Nat) (a132 : Option Addr) (c133 : Nat), VC6_J1 s_ Q r113 x_121 x_122 x_123 x_127 x_131 x_135 x_136 x_137 ∧ St Tryz.f6.ntmps ⟨[(0, Z s_), (2, Pt 3 0), (5, Pt 24 0), (8, Pt 9 0)], [(3, (27, [I 0, I 0, I 0, V (.slice none 0 0), V (.slice none 0 0)])), (9, (27, [I r113.1, I x_121, I x_122, Sl a124 x_123 c125, Sl a128 x_127 c129])), (24, (49, [Sl a132 x_131 c133, I x_135, I x_136, I x_137]))]⟩ ρ a w χ ∧ Old w0 χ0 w χ ∧ RS tApi_Pick w χ a124 x_123 c125 ∧ RS tApi_Step w χ a128 x_127 c129 ∧ RS (tSlice tToken_Token) w χ a132 x_131 c133) ?_ ?_
 ·refine wblock ?_
  refine rP T hS ⟨[(0, Z s_), (2, Pt 3 0), (5, Pt 24 0), (6, I r113.1), (7, Sl a114 r113.2.1 c115), (8, Pt 9 0), (31, B (r113.2.2.e != 0))], [(3, (27, [I 0, I 0, I 0, V (.slice none 0 0), V (.slice none 0 0)])), (9, (27, [I r113.1, I 0, I 0, V (.slice none 0 0), V (.slice none 0 0)])), (24, (49, [Sl a117 r113.2.2.rest c118, I r113.2.2.end_, I r113.2.2.at_, I r113.2.2.e]))]⟩ fun a hS => ?_
  refine wcond hS (b := (r113.2.2.e != 0)) kr (fun hb => ?_) (fun hb => ?_)
  ·replace hm := hm.1 hb
   replace hS := hS.sl ⟨[(2, Pt 3 0), (5, Pt 24 0)], [(3, (27, [I 0, I 0, I 0, V (.slice none 0 0), V (.slice none 0 0)])), (24, (49, [Sl a117 r113.2.2.rest c118, I r113.2.2.end_, I r113.2.2.at_, I r113.2.2.e]))]⟩
   refine drawnSX [24] mixed hS ?_
   intro w173 χ174 hS hE hD hH
   replace hO := hO.mv hE rfl rfl
   replace h119 := h119.mv hE rfl
   refine tk T [0, 1, 5, 2, 6, 3, 7, 4, 8] [24] hS hH #[true, true, true, true, true, true, true, true, true, false, false, false] 3 ⟨[(2, Pt 3 0), (37, V (.agg #[.int .i64 0, .int .i64 0, .int .i64 0, .slice none 0 0, .slice none 0 0])), (41, I r113.2.2.at_), (45, I r113.2.2.e)], [(3, (27, [I 0, I 0, I 0, V (.slice none 0 0), V (.slice none 0 0)])), (24, (49, [Sl a117 r113.2.2.rest c118, I r113.2.2.end_, I r113.2.2.at_, I r113.2.2.e]))]⟩ fun a hS => ?_
   replace hS := hS.sl ⟨[(2, Pt 3 0), (37, V (.agg #[.int .i64 0, .int .i64 0, .int .i64 0, .slice none 0 0, .slice none 0 0])), (41, I r113.2.2.at_), (45, I r113.2.2.e)], [(3, (27, [I 0, I 0, I 0, V (.slice none 0 0), V (.slice none 0 0)])), (24, (49, [Sl a117 r113.2.2.rest c118, I r113.2.2.end_, I r113.2.2.at_, I r113.2.2.e]))]⟩
   refine only 9 kr (by rfl) (store1 T hS kr kr (sy' := ⟨[(2, Pt 3 0), (37, V (.agg #[.int .i64 0, .int .i64 0, .int .i64 0, .slice none 0 0, .slice none 0 0])), (41, I r113.2.2.at_), (45, I r113.2.2.e)], [(3, (27, [I 0, I 0, I 0, V (.slice none 0 0), V (.slice none 0 0)])), (3, (27, [I 0, I 0, I 0, V (.slice none 0 0), V (.slice none 0 0)])), (24, (49, [Sl a117 r113.2.2.rest c118, I r113.2.2.end_, I r113.2.2.at_, I r113.2.2.e]))]⟩) kr ?_)
   intro a w175 χ176 hS hE
   replace hO := hO.mv hE rfl rfl
   replace hD := hD.ev hE rfl
   replace h119 := h119.mv hE rfl
   replace hS := hS.sl ⟨[(2, Pt 3 0), (37, V (.agg #[.int .i64 0, .int .i64 0, .int .i64 0, .slice none 0 0, .slice none 0 0])), (41, I r113.2.2.at_), (45, I r113.2.2.e)], [(3, (27, [I 0, I 0, I 0, V (.slice none 0 0), V (.slice none 0 0)])), (24, (49, [Sl a117 r113.2.2.rest c118, I r113.2.2.end_, I r113.2.2.at_, I r113.2.2.e]))]⟩
   refine andH (Hold.of hS (bks := [24]) kr hD) ?_
   intro hH
   refine tk T [10, 11] [24] hS hH #[true, true, true, true, true, true, true, true, true, true, true, true] 0 ⟨[(2, Pt 3 0), (3, I r113.2.2.at_), (4, I r113.2.2.e)], [(3, (27, [I 0, I 0, I 0, V (.slice none 0 0), V (.slice none 0 0)])), (24, (49, [Sl a117 r113.2.2.rest c118, I r113.2.2.end_, I r113.2.2.at_, I r113.2.2.e]))]⟩ fun a hS => ?_
   refine drawnDone kr ?_
   clear hD hH
   replace hS := hS.sl ⟨[(2, Pt 3 0), (3, I r113.2.2.at_), (4, I r113.2.2.e)], [(3, (27, [I 0, I 0, I 0, V (.slice none 0 0), V (.slice none 0 0)]))]⟩
   refine wret ?_
   exact fin T hS hO (fun c => c) rfl (r := [.agg #[.int .i64 0, .int .i64 0, .int .i64 0, .slice none 0 0, .slice none 0 0], .int .i64 r113.2.2.at_, .int .i64 r113.2.2.e]) kr (fun χ' hM hC => ⟨((⟨0, 0, 0, [], []⟩ : Api_Verdict), r113.2.2.at_, r113.2.2.e), hm, none, 0, none, 0, rfl, RS.empty _ _ _, RS.empty _ _ _⟩)
  replace hm := hm.2 hb
  refine rP T hS ⟨[(0, Z s_), (2, Pt 3 0), (5, Pt 24 0), (6, I r113.1), (7, Sl a114 r113.2.1 c115), (8, Pt 9 0), (46, B (r113.1 == 1))], [(3, (27, [I 0, I 0, I 0, V (.slice none 0 0), V (.slice none 0 0)])), (9, (27, [I r113.1, I 0, I 0, V (.slice none 0 0), V (.slice none 0 0)])), (24, (49, [Sl a117 r113.2.2.rest c118, I r113.2.2.end_, I r113.2.2.at_, I r113.2.2.e]))]⟩ fun a hS => ?_
  refine wcond hS (b := (r113.1 == 1)) kr (fun hb => ?_) (fun hb => ?_)
  ·replace hm := hm.1 hb
   refine drawnX [3, 24] mixed hS ?_
   intro w177 χ178 hS hE hD hH
   replace hO := hO.mv hE rfl rfl
   replace h116 := h116.mv hE rfl
   replace h119 := h119.mv hE rfl
   refine tk T [0, 3] [3, 24] hS hH #[true, false, false, true, false, false, false, false, false, false] 8 ⟨[(0, Z s_), (2, Pt 3 0), (5, Pt 24 0), (8, Pt 9 0), (49, Sl a114 r113.2.1 c115), (52, Sl a114 r113.2.1 c115)], [(3, (27, [I 0, I 0, I 0, V (.slice none 0 0), V (.slice none 0 0)])), (9, (27, [I r113.1, I 0, I 0, V (.slice none 0 0), V (.slice none 0 0)])), (24, (49, [Sl a117 r113.2.2.rest c118, I r113.2.2.end_, I r113.2.2.at_, I r113.2.2.e]))]⟩ fun a hS => ?_
   obtain ⟨hq, hm⟩ := hm
   refine dindex (e := 3) (k := .i64) T 1 hS kr kr kr (by rfl) kr hH kr kr h116 kr kr hq.1 hq.2 ?_
   intro A179 a h180 hS
   have h180b := h180.here
   refine dload1 T 2 hS kr kr kr (by rfl) kr hH kr h180 h180b rfl kr ?_
   intro v181 a hv hS
   cases hv
   refine tk T [6] [3, 24] hS hH #[true, true, true, true, false, false, true, false, false, false] 5 ⟨[(0, Z s_), (2, Pt 3 0), (5, Pt 24 0), (8, Pt 9 0), (51, I (gi r113.2.1 0)), (52, Sl a114 r113.2.1 c115), (55, Pt 9 1)], [(3, (27, [I 0, I 0, I 0, V (.slice none 0 0), V (.slice none 0 0)])), (9, (27, [I r113.1, I 0, I 0, V (.slice none 0 0), V (.slice none 0 0)])), (24, (49, [Sl a117 r113.2.2.rest c118, I r113.2.2.end_, I r113.2.2.at_, I r113.2.2.e]))]⟩ fun a hS => ?_
   obtain ⟨hq, hm⟩ := hm
   refine dindex (e := 3) (k := .i64) T 4 hS kr kr kr (by rfl) kr hH kr kr h116 kr kr hq.1 hq.2 ?_
   intro A182 a h183 hS
   have h183b := h183.here
   refine dload1 T 5 hS kr kr kr (by rfl) kr hH kr h183 h183b rfl kr ?_
   intro v184 a hv hS
   cases hv
   replace hS := hS.sl ⟨[(0, Z s_), (2, Pt 3 0), (5, Pt 24 0), (8, Pt 9 0), (51, I (gi r113.2.1 0)), (52, Sl a114 r113.2.1 c115), (55, Pt 9 1), (53, V (.pointer (some A182))), (54, I (gi r113.2.1 1))], [(3, (27, [I 0, I 0, I 0, V (.slice none 0 0), V (.slice none 0 0)])), (9, (27, [I r113.1, I 0, I 0, V (.slice none 0 0), V (.slice none 0 0)])), (24, (49, [Sl a117 r113.2.2.rest c118, I r113.2.2.end_, I r113.2.2.at_, I r113.2.2.e]))]⟩
   refine only 7 kr (by rfl) (store1 T hS kr kr (sy' := ⟨[(0, Z s_), (2, Pt 3 0), (5, Pt 24 0), (8, Pt 9 0), (51, I (gi r113.2.1 0)), (52, Sl a114 r113.2.1 c115), (55, Pt 9 1), (53, V (.pointer (some A182))), (54, I (gi r113.2.1 1))], [(9, (27, [I r113.1, I (gi r113.2.1 0), I 0, V (.slice none 0 0), V (.slice none 0 0)])), (3, (27, [I 0, I 0, I 0, V (.slice none 0 0), V (.slice none 0 0)])), (9, (27, [I r113.1, I 0, I 0, V (.slice none 0 0), V (.slice none 0 0)])), (24, (49, [Sl a117 r113.2.2.rest c118, I r113.2.2.end_, I r113.2.2.at_, I r113.2.2.e]))]⟩) kr ?_)
   intro a w185 χ186 hS hE
   replace hO := hO.mv hE rfl rfl
   replace hD := hD.ev hE rfl
   replace h116 := h116.mv hE rfl
   replace h119 := h119.mv hE rfl
   replace h180 := h180.mv hE rfl
   replace h183 := h183.mv hE rfl
   replace hS := hS.sl ⟨[(0, Z s_), (2, Pt 3 0), (5, Pt 24 0), (8, Pt 9 0), (51, I (gi r113.2.1 0)), (52, Sl a114 r113.2.1 c115), (55, Pt 9 1), (53, V (.pointer (some A182))), (54, I (gi r113.2.1 1))], [(3, (27, [I 0, I 0, I 0, V (.slice none 0 0), V (.slice none 0 0)])), (9, (27, [I r113.1, I (gi r113.2.1 0), I 0, V (.slice none 0 0), V (.slice none 0 0)])), (24, (49, [Sl a117 r113.2.2.rest c118, I r113.2.2.end_, I r113.2.2.at_, I r113.2.2.e]))]⟩
   refine andH (Hold.of hS (bks := [3, 24]) kr hD) ?_
   intro hH
   refine tk T [8] [3, 24] hS hH #[true, true, true, true, true, true, true, true, true, false] 1 ⟨[(0, Z s_), (2, Pt 3 0), (5, Pt 24 0), (8, Pt 9 0), (54, I (gi r113.2.1 1)), (56, Pt 9 2)], [(3, (27, [I 0, I 0, I 0, V (.slice none 0 0), V (.slice none 0 0)])), (9, (27, [I r113.1, I (gi r113.2.1 0), I 0, V (.slice none 0 0), V (.slice none 0 0)])), (24, (49, [Sl a117 r113.2.2.rest c118, I r113.2.2.end_, I r113.2.2.at_, I r113.2.2.e]))]⟩ fun a hS => ?_
   replace hS := hS.sl ⟨[(0, Z s_), (2, Pt 3 0), (5, Pt 24 0), (8, Pt 9 0), (54, I (gi r113.2.1 1)), (56, Pt 9 2)], [(3, (27, [I 0, I 0, I 0, V (.slice none 0 0), V (.slice none 0 0)])), (9, (27, [I r113.1, I (gi r113.2.1 0), I 0, V (.slice none 0 0), V (.slice none 0 0)])), (24, (49, [Sl a117 r113.2.2.rest c118, I r113.2.2.end_, I r113.2.2.at_, I r113.2.2.e]))]⟩
   refine only 9 kr (by rfl) (store1 T hS kr kr (sy' := ⟨[(0, Z s_), (2, Pt 3 0), (5, Pt 24 0), (8, Pt 9 0), (54, I (gi r113.2.1 1)), (56, Pt 9 2)], [(9, (27, [I r113.1, I (gi r113.2.1 0), I (gi r113.2.1 1), V (.slice none 0 0), V (.slice none 0 0)])), (3, (27, [I 0, I 0, I 0, V (.slice none 0 0), V (.slice none 0 0)])), (9, (27, [I r113.1, I (gi r113.2.1 0), I 0, V (.slice none 0 0), V (.slice none 0 0)])), (24, (49, [Sl a117 r113.2.2.rest c118, I r113.2.2.end_, I r113.2.2.at_, I r113.2.2.e]))]⟩) kr ?_)
   intro a w187 χ188 hS hE
   replace hO := hO.mv hE rfl rfl
   replace hD := hD.ev hE rfl
   replace h116 := h116.mv hE rfl
   replace h119 := h119.mv hE rfl
   replace h180 := h180.mv hE rfl
   replace h183 := h183.mv hE rfl
   replace hS := hS.sl ⟨[(0, Z s_), (2, Pt 3 0), (5, Pt 24 0), (8, Pt 9 0), (54, I (gi r113.2.1 1)), (56, Pt 9 2)], [(3, (27, [I 0, I 0, I 0, V (.slice none 0 0), V (.slice none 0 0)])), (9, (27, [I r113.1, I (gi r113.2.1 0), I (gi r113.2.1 1), V (.slice none 0 0), V (.slice none 0 0)])), (24, (49, [Sl a117 r113.2.2.rest c118, I r113.2.2.end_, I r113.2.2.at_, I r113.2.2.e]))]⟩
   refine andH (Hold.of hS (bks := [3, 24]) kr hD) ?_
   intro hH
   refine drawnDone kr ?_
   clear hD hH
   replace hS := hS.sl ⟨[(0, Z s_), (2, Pt 3 0), (5, Pt 24 0), (8, Pt 9 0)], [(3, (27, [I 0, I 0, I 0, V (.slice none 0 0), V (.slice none 0 0)])), (9, (27, [I r113.1, I (gi r113.2.1 0), I (gi r113.2.1 1), V (.slice none 0 0), V (.slice none 0 0)])), (24, (49, [Sl a117 r113.2.2.rest c118, I r113.2.2.end_, I r113.2.2.at_, I r113.2.2.e]))]⟩
   exact ⟨ρ, _, gi r113.2.1 0, gi r113.2.1 1, [], [], r113.2.2.rest, r113.2.2.end_, r113.2.2.at_, r113.2.2.e, none, 0, none, 0, a117, c118, hm, hS.sl _, hO, (RS.empty _ _ _), (RS.empty _ _ _), h119⟩
  replace hm := hm.2 hb
  refine rP T hS ⟨[(0, Z s_), (2, Pt 3 0), (5, Pt 24 0), (6, I r113.1), (7, Sl a114 r113.2.1 c115), (8, Pt 9 0), (57, B (r113.1 == 4))], [(3, (27, [I 0, I 0, I 0, V (.slice none 0 0), V (.slice none 0 0)])), (9, (27, [I r113.1, I 0, I 0, V (.slice none 0 0), V (.slice none 0 0)])), (24, (49, [Sl a117 r113.2.2.rest c118, I r113.2.2.end_, I r113.2.2.at_, I r113.2.2.e]))]⟩ fun a hS => ?_
  refine wcond hS (b := (r113.1 == 4)) kr (fun hb => ?_) (fun hb => ?_)
  ·replace hm := hm.1 hb
   refine region ?_
   refine oP T hS 2 ⟨[(0, Z s_), (2, Pt 3 0), (5, Pt 24 0), (8, Pt 9 0), (60, Pt 24 0), (61, Sl a114 r113.2.1 c115)], [(3, (27, [I 0, I 0, I 0, V (.slice none 0 0), V (.slice none 0 0)])), (9, (27, [I r113.1, I 0, I 0, V (.slice none 0 0), V (.slice none 0 0)])), (24, (49, [Sl a117 r113.2.2.rest c118, I r113.2.2.end_, I r113.2.2.at_, I r113.2.2.e]))]⟩ fun a hS => ?_
   obtain ⟨hq, hm⟩ := hm
   refine op1 (index (e := 3) (k := .i64) T hS kr kr kr kr h116 kr kr hq.1 hq.2 ?_)
   intro A189 a h190 hS
   refine op1 (load1 T hS kr kr kr h190 rfl kr ?_)
   intro v191 a hv hS
   cases hv
   obtain ⟨hq, hm⟩ := hm
   refine op1 (callR hS kr kr hb19 kr (k19 _ _ (gi r113.2.1 0) r113.2.2 a117 c118 (ρ 24) 24 hq h119 (hS.cell (id := 24) (t := 49) (cs := [Sl a117 r113.2.2.rest c118, I r113.2.2.end_, I r113.2.2.at_, I r113.2.2.e]) kr) ⟨by decide, by decide⟩) ?_)
   intro v192 a w193 χ194 hE hp hS
   replace hO := hO.mv hE rfl rfl
   replace h116 := h116.mv hE rfl
   replace h119 := h119.mv hE rfl
   replace h190 := h190.mv hE rfl
   obtain ⟨a196, c197, a199, c200, hp, h198, h201, hc202⟩ := hp
   obtain ⟨r195, hr⟩ : ∃ r, verdict_reader_picks (gi r113.2.1 0) r113.2.2 = r := ⟨_, rfl⟩
   replace hm := hm r195 hr
   rw [hr] at hp h198 h201 hc202
   clear hr
   subst hp
   replace hm := hm (h198.sm kr)
   replace hm := hm (h201.sm kr)
   replace hS := hS.addbox (id := 24) (t := 49) (cs := [Sl a199 r195.2.rest c200, I r195.2.end_, I r195.2.at_, I r195.2.e]) kr hc202
   clear hc202
   refine eM T hS ⟨[(0, Z s_), (2, Pt 3 0), (5, Pt 24 0), (8, Pt 9 0)], [(3, (27, [I 0, I 0, I 0, V (.slice none 0 0), V (.slice none 0 0)])), (9, (27, [I r113.1, I 0, I 0, Sl a196 r195.1 c197, V (.slice none 0 0)])), (24, (49, [Sl a199 r195.2.rest c200, I r195.2.end_, I r195.2.at_, I r195.2.e]))]⟩ fun ρ a w203 χ204 hS hE hr => ?_
   replace hO := hO.mv hE rfl rfl
   replace h198 := h198.mv hE rfl
   replace h201 := h201.mv hE rfl
   clear hE hr
   exact ⟨ρ, _, 0, 0, r195.1, [], r195.2.rest, r195.2.end_, r195.2.at_, r195.2.e, a196, c197, none, 0, a199, c200, hm, hS.sl _, hO, h198, (RS.empty _ _ _), h201⟩
  replace hm := hm.2 hb
  refine rP T hS ⟨[(0, Z s_), (2, Pt 3 0), (5, Pt 24 0), (8, Pt 9 0), (66, B (r113.1 == 5))], [(3, (27, [I 0, I 0, I 0, V (.slice none 0 0), V (.slice none 0 0)])), (9, (27, [I r113.1, I 0, I 0, V (.slice none 0 0), V (.slice none 0 0)])), (24, (49, [Sl a117 r113.2.2.rest c118, I r113.2.2.end_, I r113.2.2.at_, I r113.2.2.e]))]⟩ fun a hS => ?_
  refine wcond hS (b := (r113.1 == 5)) kr (fun hb => ?_) (fun hb => ?_)
  ·replace hm := hm.1 hb
   refine regO ?_
   refine oP T hS 1 ⟨[(0, Z s_), (2, Pt 3 0), (5, Pt 24 0), (8, Pt 9 0), (69, Z s_)], [(3, (27, [I 0, I 0, I 0, V (.slice none 0 0), V (.slice none 0 0)])), (9, (27, [I r113.1, I 0, I 0, V (.slice none 0 0), V (.slice none 0 0)])), (24, (49, [Sl a117 r113.2.2.rest c118, I r113.2.2.end_, I r113.2.2.at_, I r113.2.2.e]))]⟩ fun a hS => ?_
   obtain ⟨hq, hm⟩ := hm
   refine op1 (call hS kr kr hb20 kr (fun _ _ => rfl) (k20 _ _ s_ hq) ?_)
   intro v205 a w206 χ207 hE hp hS
   replace hO := hO.mv hE rfl rfl
   replace h119 := h119.mv hE rfl
   obtain ⟨r208, hr⟩ : ∃ r, verdict_behind s_ = r := ⟨_, rfl⟩
   replace hm := hm r208 hr
   rw [hr] at hp
   clear hr
   subst hp
   refine eP T hS ⟨[(0, Z s_), (2, Pt 3 0), (5, Pt 24 0), (8, Pt 9 0), (9, I r208)], [(3, (27, [I 0, I 0, I 0, V (.slice none 0 0), V (.slice none 0 0)])), (9, (27, [I r113.1, I 0, I 0, V (.slice none 0 0), V (.slice none 0 0)])), (24, (49, [Sl a117 r113.2.2.rest c118, I r113.2.2.end_, I r113.2.2.at_, I r113.2.2.e]))]⟩ fun a hS => ?_
   refine regO ?_
   refine oP T hS 2 ⟨[(0, Z s_), (2, Pt 3 0), (5, Pt 24 0), (8, Pt 9 0), (9, I r208), (72, Z s_), (73, I r208)], [(3, (27, [I 0, I 0, I 0, V (.slice none 0 0), V (.slice none 0 0)])), (9, (27, [I r113.1, I 0, I 0, V (.slice none 0 0), V (.slice none 0 0)])), (24, (49, [Sl a117 r113.2.2.rest c118, I r113.2.2.end_, I r113.2.2.at_, I r113.2.2.e]))]⟩ fun a hS => ?_
   obtain ⟨hq, hm⟩ := hm
   refine op1 (sslice1 (kl := .i64) (s := s_) T hS kr kr kr kr kr hq.1 hq.2 ?_)
   intro a hS
   refine op1 (call hS kr kr hb21 kr (fun _ _ => rfl) (k21 _ _ (s_.drop r208.toNat)) ?_)
   intro v209 a w210 χ211 hE hp hS
   replace hO := hO.mv hE rfl rfl
   replace h119 := h119.mv hE rfl
   obtain ⟨a213, c214, hp, h215⟩ := hp
   obtain ⟨r212, hr⟩ : ∃ r, proof_Parse (s_.drop r208.toNat) = r := ⟨_, rfl⟩
   replace hm := hm r212 hr
   rw [hr] at hp h215
   clear hr
   subst hp
   replace hm := hm (h215.sm kr)
   refine eP T hS ⟨[(0, Z s_), (2, Pt 3 0), (5, Pt 24 0), (8, Pt 9 0), (9, I r208), (10, Sl a213 r212.1 c214), (11, I r212.2.1), (12, I r212.2.2)], [(3, (27, [I 0, I 0, I 0, V (.slice none 0 0), V (.slice none 0 0)])), (9, (27, [I r113.1, I 0, I 0, V (.slice none 0 0), V (.slice none 0 0)])), (24, (49, [Sl a117 r113.2.2.rest c118, I r113.2.2.end_, I r113.2.2.at_, I r113.2.2.e]))]⟩ fun a hS => ?_
   refine wseq (rP T hS ⟨[(0, Z s_), (2, Pt 3 0), (5, Pt 24 0), (8, Pt 9 0), (9, I r208), (10, Sl a213 r212.1 c214), (11, I r212.2.1), (12, I r212.2.2), (80, B (r212.2.2 != 0))], [(3, (27, [I 0, I 0, I 0, V (.slice none 0 0), V (.slice none 0 0)])), (9, (27, [I r113.1, I 0, I 0, V (.slice none 0 0), V (.slice none 0 0)])), (24, (49, [Sl a117 r113.2.2.rest c118, I r113.2.2.end_, I r113.2.2.at_, I r113.2.2.e]))]⟩ fun a hS => ?_)
   refine wcond hS (b := (r212.2.2 != 0)) kr (fun hb => ?_) (fun hb => ?_)
   ·replace hm := hm.1 hb
    refine rM T hS ⟨[(2, Pt 3 0), (3, I (wR (r208 + r212.2.1))), (4, I r212.2.2)], [(3, (27, [I 0, I 0, I 0, V (.slice none 0 0), V (.slice none 0 0)]))]⟩ fun ρ a w216 χ217 hS hE hr => ?_
    replace hO := hO.mv hE rfl rfl
    clear hE hr
    refine wret ?_
    exact fin T hS hO (fun c => c) rfl (r := [.agg #[.int .i64 0, .int .i64 0, .int .i64 0, .slice none 0 0, .slice none 0 0], .int .i64 (wR (r208 + r212.2.1)), .int .i64 r212.2.2]) kr (fun χ' hM hC => ⟨((⟨0, 0, 0, [], []⟩ : Api_Verdict), wR (r208 + r212.2.1), r212.2.2), hm, none, 0, none, 0, rfl, RS.empty _ _ _, RS.empty _ _ _⟩)
   replace hm := hm.2 hb
   refine wskip ?_
   refine region (eM T hS ⟨[(0, Z s_), (2, Pt 3 0), (5, Pt 24 0), (8, Pt 9 0)], [(3, (27, [I 0, I 0, I 0, V (.slice none 0 0), V (.slice none 0 0)])), (9, (27, [I r113.1, I 0, I 0, V (.slice none 0 0), Sl a213 r212.1 c214])), (24, (49, [V (.slice none 0 0), I r113.2.2.end_, I r113.2.2.at_, I r113.2.2.e]))]⟩ fun ρ a w218 χ219 hS hE hr => ?_)
   replace hO := hO.mv hE rfl rfl
   replace h215 := h215.mv hE rfl
   clear hE hr
   exact ⟨ρ, _, 0, 0, [], r212.1, [], r113.2.2.end_, r113.2.2.at_, r113.2.2.e, none, 0, a213, c214, none, 0, hm, hS.sl _, hO, (RS.empty _ _ _), h215, (RS.empty _ _ _)⟩
  replace hm := hm.2 hb
  refine wskip ?_
  exact ⟨ρ, _, 0, 0, [], [], r113.2.2.rest, r113.2.2.end_, r113.2.2.at_, r113.2.2.e, none, 0, none, 0, a117, c118, hm, hS.sl _, hO, (RS.empty _ _ _), (RS.empty _ _ _), h119⟩
 rintro a w221 ⟨ρ, χ220, x_121, x_122, x_123, x_127, x_131, x_135, x_136, x_137, a124, c125, a128, c129, a132, c133, hm, hS, hO, h126, h130, h134⟩
 unfold VC6_J1 at hm
 refine wcut (fun a w => ∃ (ρ : Nat → Nat) (χ : Nat → Nat) (x_140 : List (List Token_Token)) (x_144 : Int) (x_145 : Int) (x_146 : Int) (a141 : Option Addr) (c142 : Nat), VC6_J2 s_ Q r113 x_121 x_122 x_123 x_127 x_140 x_144 x_145 x_146 ∧ St Tryz.f6.ntmps ⟨[(0, Z s_), (2, Pt 3 0), (5, Pt 24 0), (8, Pt 9 0)], [(3, (27, [I 0, I 0, I 0, V (.slice none 0 0), V (.slice none 0 0)])), (9, (27, [I r113.1, I x_121, I x_122, Sl a124 x_123 c125, Sl a128 x_127 c129])), (24, (49, [Sl a141 x_140 c142, I x_144, I x_145, I x_146]))]⟩ ρ a w χ ∧ Old w0 χ0 w χ ∧ RS tApi_Pick w χ a124 x_123 c125 ∧ RS tApi_Step w χ a128 x_127 c129 ∧ RS (tSlice tToken_Token) w χ a141 x_140 c142) ?_ ?_
 ·refine regO ?_
  refine oP T hS 1 ⟨[(0, Z s_), (2, Pt 3 0), (5, Pt 24 0), (8, Pt 9 0), (91, Pt 24 0)], [(3, (27, [I 0, I 0, I 0, V (.slice none 0 0), V (.slice none 0 0)])), (9, (27, [I r113.1, I x_121, I x_122, Sl a124 x_123 c125, Sl a128 x_127 c129])), (24, (49, [Sl a132 x_131 c133, I x_135, I x_136, I x_137]))]⟩ fun a hS => ?_
  refine op1 (callR hS kr kr hb22 kr (k22 _ _ (⟨x_131, x_135, x_136, x_137⟩ : Verdict_reader) a132 c133 (ρ 24) 24 h134 (hS.cell (id := 24) (t := 49) (cs := [Sl a132 x_131 c133, I x_135, I x_136, I x_137]) kr) ⟨by decide, by decide⟩) ?_)
  intro v153 a w154 χ155 hE hp hS
  replace hO := hO.mv hE rfl rfl
  replace h126 := h126.mv hE rfl
  replace h130 := h130.mv hE rfl
  replace h134 := h134.mv hE rfl
  obtain ⟨a157, c158, a160, c161, hp, h159, h162, hc163⟩ := hp
  obtain ⟨r156, hr⟩ : ∃ r, verdict_reader_next (⟨x_131, x_135, x_136, x_137⟩ : Verdict_reader) = r := ⟨_, rfl⟩
  replace hm := hm r156 hr
  rw [hr] at hp h159 h162 hc163
  clear hr
  subst hp
  replace hm := hm (h159.sm kr)
  replace hm := hm (h162.sm kr)
  replace hS := hS.addbox (id := 24) (t := 49) (cs := [Sl a160 r156.2.rest c161, I r156.2.end_, I r156.2.at_, I r156.2.e]) kr hc163
  clear hc163
  refine eP T hS ⟨[(0, Z s_), (2, Pt 3 0), (5, Pt 24 0), (8, Pt 9 0), (13, Sl a157 r156.1 c158)], [(3, (27, [I 0, I 0, I 0, V (.slice none 0 0), V (.slice none 0 0)])), (9, (27, [I r113.1, I x_121, I x_122, Sl a124 x_123 c125, Sl a128 x_127 c129])), (24, (49, [Sl a160 r156.2.rest c161, I r156.2.end_, I r156.2.at_, I r156.2.e]))]⟩ fun a hS => ?_
  refine rP T hS ⟨[(0, Z s_), (2, Pt 3 0), (5, Pt 24 0), (8, Pt 9 0), (13, Sl a157 r156.1 c158), (102, B ((r156.2.e == 0) && (decide ((lN r156.1) > 0))))], [(3, (27, [I 0, I 0, I 0, V (.slice none 0 0), V (.slice none 0 0)])), (9, (27, [I r113.1, I x_121, I x_122, Sl a124 x_123 c125, Sl a128 x_127 c129])), (24, (49, [Sl a160 r156.2.rest c161, I r156.2.end_, I r156.2.at_, I r156.2.e]))]⟩ (sp := [98]) fun a hS => ?_
  refine wcond hS (b := ((r156.2.e == 0) && (decide ((lN r156.1) > 0)))) kr (fun hb => ?_) (fun hb => ?_)
  ·replace hm := hm.1 hb
   refine region ?_
   refine oP T hS 3 ⟨[(0, Z s_), (2, Pt 3 0), (5, Pt 24 0), (8, Pt 9 0), (103, Pt 24 0), (104, Pt 24 0), (105, Sl a157 r156.1 c158)], [(3, (27, [I 0, I 0, I 0, V (.slice none 0 0), V (.slice none 0 0)])), (9, (27, [I r113.1, I x_121, I x_122, Sl a124 x_123 c125, Sl a128 x_127 c129])), (24, (49, [Sl a160 r156.2.rest c161, I r156.2.end_, I r156.2.at_, I r156.2.e]))]⟩ fun a hS => ?_
   obtain ⟨hq, hm⟩ := hm
   refine op1 (index (e := 60) (k := .i64) T hS kr kr kr kr h159 kr kr hq.1 hq.2 ?_)
   intro A164 a h165 hS
   refine op1 (fieldA (off := 1) (fsz := 1) (ft := 3) (TF := tI) (y := (gi r156.1 0).At) T hS kr kr kr h165 kr kr kr (fun cs h => Token_Token_f1 h) ?_)
   intro A166 a h167 hS
   refine op1 (load1 T hS kr kr kr h167 rfl kr ?_)
   intro v168 a hv hS
   cases hv
   refine eM T hS ⟨[(0, Z s_), (2, Pt 3 0), (5, Pt 24 0), (8, Pt 9 0)], [(3, (27, [I 0, I 0, I 0, V (.slice none 0 0), V (.slice none 0 0)])), (9, (27, [I r113.1, I x_121, I x_122, Sl a124 x_123 c125, Sl a128 x_127 c129])), (24, (49, [Sl a160 r156.2.rest c161, I r156.2.end_, I ((gi r156.1 0).At), I 6]))]⟩ fun ρ a w169 χ170 hS hE hr => ?_
   replace hO := hO.mv hE rfl rfl
   replace h126 := h126.mv hE rfl
   replace h130 := h130.mv hE rfl
   replace h162 := h162.mv hE rfl
   clear hE hr
   exact ⟨ρ, _, r156.2.rest, r156.2.end_, (gi r156.1 0).At, 6, a160, c161, hm, hS.sl _, hO, h126, h130, h162⟩
  replace hm := hm.2 hb
  refine wskip ?_
  exact ⟨ρ, _, r156.2.rest, r156.2.end_, r156.2.at_, r156.2.e, a160, c161, hm, hS.sl _, hO, h126, h130, h162⟩
 rintro a w172 ⟨ρ, χ171, x_140, x_144, x_145, x_146, a141, c142, hm, hS, hO, h138, h139, h143⟩
 unfold VC6_J2 at hm
 refine wseq (rP T hS ⟨[(0, Z s_), (2, Pt 3 0), (5, Pt 24 0), (8, Pt 9 0), (117, B (x_146 != 0))], [(3, (27, [I 0, I 0, I 0, V (.slice none 0 0), V (.slice none 0 0)])), (9, (27, [I r113.1, I x_121, I x_122, Sl a124 x_123 c125, Sl a128 x_127 c129])), (24, (49, [Sl a141 x_140 c142, I x_144, I x_145, I x_146]))]⟩ fun a hS => ?_)
 refine wcond hS (b := (x_146 != 0)) kr (fun hb => ?_) (fun hb => ?_)
 ·replace hm := hm.1 hb
  replace hS := hS.sl ⟨[(2, Pt 3 0), (5, Pt 24 0)], [(3, (27, [I 0, I 0, I 0, V (.slice none 0 0), V (.slice none 0 0)])), (24, (49, [Sl a141 x_140 c142, I x_144, I x_145, I x_146]))]⟩
  refine drawnSX [24] mixed hS ?_
  intro w147 χ148 hS hE hD hH
  replace hO := hO.mv hE rfl rfl
  replace h143 := h143.mv hE rfl
  refine tk T [0, 1, 5, 2, 6, 3, 7, 4, 8] [24] hS hH #[true, true, true, true, true, true, true, true, true, false, false, false] 3 ⟨[(2, Pt 3 0), (118, V (.agg #[.int .i64 0, .int .i64 0, .int .i64 0, .slice none 0 0, .slice none 0 0])), (122, I x_145), (126, I x_146)], [(3, (27, [I 0, I 0, I 0, V (.slice none 0 0), V (.slice none 0 0)])), (24, (49, [Sl a141 x_140 c142, I x_144, I x_145, I x_146]))]⟩ fun a hS => ?_
  replace hS := hS.sl ⟨[(2, Pt 3 0), (118, V (.agg #[.int .i64 0, .int .i64 0, .int .i64 0, .slice none 0 0, .slice none 0 0])), (122, I x_145), (126, I x_146)], [(3, (27, [I 0, I 0, I 0, V (.slice none 0 0), V (.slice none 0 0)])), (24, (49, [Sl a141 x_140 c142, I x_144, I x_145, I x_146]))]⟩
  refine only 9 kr (by rfl) (store1 T hS kr kr (sy' := ⟨[(2, Pt 3 0), (118, V (.agg #[.int .i64 0, .int .i64 0, .int .i64 0, .slice none 0 0, .slice none 0 0])), (122, I x_145), (126, I x_146)], [(3, (27, [I 0, I 0, I 0, V (.slice none 0 0), V (.slice none 0 0)])), (3, (27, [I 0, I 0, I 0, V (.slice none 0 0), V (.slice none 0 0)])), (24, (49, [Sl a141 x_140 c142, I x_144, I x_145, I x_146]))]⟩) kr ?_)
  intro a w149 χ150 hS hE
  replace hO := hO.mv hE rfl rfl
  replace hD := hD.ev hE rfl
  replace h143 := h143.mv hE rfl
  replace hS := hS.sl ⟨[(2, Pt 3 0), (118, V (.agg #[.int .i64 0, .int .i64 0, .int .i64 0, .slice none 0 0, .slice none 0 0])), (122, I x_145), (126, I x_146)], [(3, (27, [I 0, I 0, I 0, V (.slice none 0 0), V (.slice none 0 0)])), (24, (49, [Sl a141 x_140 c142, I x_144, I x_145, I x_146]))]⟩
  refine andH (Hold.of hS (bks := [24]) kr hD) ?_
  intro hH
  refine tk T [10, 11] [24] hS hH #[true, true, true, true, true, true, true, true, true, true, true, true] 0 ⟨[(2, Pt 3 0), (3, I x_145), (4, I x_146)], [(3, (27, [I 0, I 0, I 0, V (.slice none 0 0), V (.slice none 0 0)])), (24, (49, [Sl a141 x_140 c142, I x_144, I x_145, I x_146]))]⟩ fun a hS => ?_
  refine drawnDone kr ?_
  clear hD hH
  replace hS := hS.sl ⟨[(2, Pt 3 0), (3, I x_145), (4, I x_146)], [(3, (27, [I 0, I 0, I 0, V (.slice none 0 0), V (.slice none 0 0)]))]⟩
  refine wret ?_
  exact fin T hS hO (fun c => c) rfl (r := [.agg #[.int .i64 0, .int .i64 0, .int .i64 0, .slice none 0 0, .slice none 0 0], .int .i64 x_145, .int .i64 x_146]) kr (fun χ' hM hC => ⟨((⟨0, 0, 0, [], []⟩ : Api_Verdict), x_145, x_146), hm, none, 0, none, 0, rfl, RS.empty _ _ _, RS.empty _ _ _⟩)
 replace hm := hm.2 hb
 refine wskip ?_
 refine rM T hS ⟨[(2, Pt 3 0), (3, I (lN s_)), (4, I 0)], [(3, (27, [I r113.1, I x_121, I x_122, Sl a124 x_123 c125, Sl a128 x_127 c129]))]⟩ fun ρ a w151 χ152 hS hE hr => ?_
 replace hO := hO.mv hE rfl rfl
 replace h138 := h138.mv hE rfl
 replace h139 := h139.mv hE rfl
 clear hE hr
 refine wret ?_
 exact fin T hS hO (fun c => c) rfl (r := [.agg #[.int .i64 r113.1, .int .i64 x_121, .int .i64 x_122, .slice a124 x_123.length c125, .slice a128 x_127.length c129], .int .i64 (lN s_), .int .i64 0]) kr (fun χ' hM hC => ⟨((⟨r113.1, x_121, x_122, x_123, x_127⟩ : Api_Verdict), (lN s_), 0), hm, a124, c125, a128, c129, rfl, h138.m0 hM, h139.m0 hM⟩)
theorem C6 (k17 : S17) (k18 : S18) (k19 : S19) (k20 : S20) (k21 : S21) (k22 : S22) (v : ∀ (s_ : List UInt8), VC6 s_ (fun r => r = verdict_Parse s_)) : S6 := by
 intro w χ s_    
 refine (W6 k17 k18 k19 k20 k21 k22 w χ s_    _ (v s_)).mono ?_
 rintro _ _ _ _ ⟨r, rfl, h⟩
 exact h
theorem W5 (k10 : S10) (k12 : S12) (k14 : S14) (k15 : S15) (k6 : S6) (w0 : World) (χ0 : Nat → Nat) (Q : Bool → Prop) (hm : VC5 Q) (hAmb : Amb w0 χ0) :
  Ret Tryz.prog 5 #[] xnone w0 χ0 (fun w χ' v => ∃ r, Q r ∧ v = .bool r) := by
 unfold VC5 at hm
 refine enter Tryz.func5 rfl (vals := []) kr ?_
 intro ρ a hS hO hM
 replace hAmb := hAmb.m0 hM
 clear hM
 refine rP T hS ⟨[], []⟩ fun a hS => ?_
 refine regO ?_
 refine op1 (call hS kr kr hb6 kr (fun _ _ => rfl) (k6 _ _ ([108, 105, 110, 101, 97, 114, 105, 122, 97, 98, 108, 101, 32, 49, 10, 112, 105, 99, 107, 32, 48, 32, 55, 10] : List UInt8)) ?_)
 intro v101 a w102 χ103 hE hp hS
 replace hO := hO.mv hE rfl rfl
 replace hAmb := hAmb.mv hE rfl
 obtain ⟨a105, c106, a108, c109, hp, h107, h110⟩ := hp
 obtain ⟨r104, hr⟩ : ∃ r, verdict_Parse ([108, 105, 110, 101, 97, 114, 105, 122, 97, 98, 108, 101, 32, 49, 10, 112, 105, 99, 107, 32, 48, 32, 55, 10] : List UInt8) = r := ⟨_, rfl⟩
 replace hm := hm r104 hr
 rw [hr] at hp h107 h110
 clear hr
 subst hp
 replace hm := hm (h107.sm kr)
 replace hm := hm (h110.sm kr)
 refine eM T hS ⟨[(1, Pt 2 0), (2, I r104.2.1), (3, I r104.2.2)], [(2, (27, [I r104.1.Kind, I r104.1.At, I r104.1.Err, Sl a105 r104.1.Picks c106, Sl a108 r104.1.Proof c109]))]⟩ fun ρ a w190 χ191 hS hE hr => ?_
 replace hO := hO.mv hE rfl rfl
 replace hAmb := hAmb.mv hE rfl
 replace h107 := h107.mv hE rfl
 replace h110 := h110.mv hE rfl
 clear hE hr
 refine regO ?_
 refine oP T hS 1 ⟨[(1, Pt 2 0), (2, I r104.2.1), (3, I r104.2.2), (24, V (.agg #[.int .i64 r104.1.Kind, .int .i64 r104.1.At, .int .i64 r104.1.Err, .slice a105 r104.1.Picks.length c106, .slice a108 r104.1.Proof.length c109]))], [(2, (27, [I r104.1.Kind, I r104.1.At, I r104.1.Err, Sl a105 r104.1.Picks c106, Sl a108 r104.1.Proof c109]))]⟩ fun a hS => ?_
 refine op1 (call hS kr kr hb10 kr (fun _ _ => rfl) (k10 _ _ r104.1 a105 c106 a108 c109 h107 h110 hAmb) ?_)
 intro v111 a w112 χ113 hE hp hS
 replace hO := hO.mv hE rfl rfl
 replace hAmb := hAmb.mv hE rfl
 replace h107 := h107.mv hE rfl
 replace h110 := h110.mv hE rfl
 obtain ⟨r114, hr⟩ : ∃ r, verdict_Print r104.1 = r := ⟨_, rfl⟩
 replace hm := hm r114 hr
 rw [hr] at hp
 clear hr
 subst hp
 refine eP T hS ⟨[(1, Pt 2 0), (2, I r104.2.1), (3, I r104.2.2), (4, Z r114.1), (5, I r114.2)], [(2, (27, [I r104.1.Kind, I r104.1.At, I r104.1.Err, Sl a105 r104.1.Picks c106, Sl a108 r104.1.Proof c109]))]⟩ fun a hS => ?_
 refine regO ?_
 refine op1 (call hS kr kr hb6 kr (fun _ _ => rfl) (k6 _ _ ([110, 111, 116, 108, 105, 110, 101, 97, 114, 105, 122, 97, 98, 108, 101, 10, 51, 32, 48, 32, 49, 32, 50, 32, 48, 10] : List UInt8)) ?_)
 intro v115 a w116 χ117 hE hp hS
 replace hO := hO.mv hE rfl rfl
 replace hAmb := hAmb.mv hE rfl
 replace h107 := h107.mv hE rfl
 replace h110 := h110.mv hE rfl
 obtain ⟨a119, c120, a122, c123, hp, h121, h124⟩ := hp
 obtain ⟨r118, hr⟩ : ∃ r, verdict_Parse ([110, 111, 116, 108, 105, 110, 101, 97, 114, 105, 122, 97, 98, 108, 101, 10, 51, 32, 48, 32, 49, 32, 50, 32, 48, 10] : List UInt8) = r := ⟨_, rfl⟩
 replace hm := hm r118 hr
 rw [hr] at hp h121 h124
 clear hr
 subst hp
 replace hm := hm (h121.sm kr)
 replace hm := hm (h124.sm kr)
 refine eM T hS ⟨[(1, Pt 2 0), (2, I r104.2.1), (3, I r104.2.2), (4, Z r114.1), (5, I r114.2), (6, Pt 7 0), (8, I r118.2.2)], [(2, (27, [I r104.1.Kind, I r104.1.At, I r104.1.Err, Sl a105 r104.1.Picks c106, Sl a108 r104.1.Proof c109])), (7, (27, [I r118.1.Kind, I r118.1.At, I r118.1.Err, Sl a119 r118.1.Picks c120, Sl a122 r118.1.Proof c123]))]⟩ fun ρ a w188 χ189 hS hE hr => ?_
 replace hO := hO.mv hE rfl rfl
 replace hAmb := hAmb.mv hE rfl
 replace h107 := h107.mv hE rfl
 replace h110 := h110.mv hE rfl
 replace h121 := h121.mv hE rfl
 replace h124 := h124.mv hE rfl
 clear hE hr
 refine regO ?_
 refine op1 (call hS kr kr hb6 kr (fun _ _ => rfl) (k6 _ _ ([110, 111, 116, 108, 105, 110, 101, 97, 114, 105, 122, 97, 98, 108, 101, 10, 51, 32, 48, 32, 49, 32, 50] : List UInt8)) ?_)
 intro v125 a w126 χ127 hE hp hS
 replace hO := hO.mv hE rfl rfl
 replace hAmb := hAmb.mv hE rfl
 replace h107 := h107.mv hE rfl
 replace h110 := h110.mv hE rfl
 replace h121 := h121.mv hE rfl
 replace h124 := h124.mv hE rfl
 obtain ⟨a129, c130, a132, c133, hp, h131, h134⟩ := hp
 obtain ⟨r128, hr⟩ : ∃ r, verdict_Parse ([110, 111, 116, 108, 105, 110, 101, 97, 114, 105, 122, 97, 98, 108, 101, 10, 51, 32, 48, 32, 49, 32, 50] : List UInt8) = r := ⟨_, rfl⟩
 replace hm := hm r128 hr
 rw [hr] at hp h131 h134
 clear hr
 subst hp
 replace hm := hm (h131.sm kr)
 replace hm := hm (h134.sm kr)
 refine eM T hS ⟨[(1, Pt 2 0), (2, I r104.2.1), (3, I r104.2.2), (4, Z r114.1), (5, I r114.2), (6, Pt 7 0), (8, I r118.2.2), (10, I r128.2.1), (11, I r128.2.2)], [(2, (27, [I r104.1.Kind, I r104.1.At, I r104.1.Err, Sl a105 r104.1.Picks c106, Sl a108 r104.1.Proof c109])), (7, (27, [I r118.1.Kind, I r118.1.At, I r118.1.Err, Sl a119 r118.1.Picks c120, Sl a122 r118.1.Proof c123]))]⟩ fun ρ a w186 χ187 hS hE hr => ?_
 replace hO := hO.mv hE rfl rfl
 replace hAmb := hAmb.mv hE rfl
 replace h107 := h107.mv hE rfl
 replace h110 := h110.mv hE rfl
 replace h121 := h121.mv hE rfl
 replace h124 := h124.mv hE rfl
 clear hE hr
 refine regO ?_
 refine op1 (call hS kr kr hb6 kr (fun _ _ => rfl) (k6 _ _ ([109, 97, 108, 102, 111, 114, 109, 101, 100, 32, 53, 32, 52] : List UInt8)) ?_)
 intro v135 a w136 χ137 hE hp hS
 replace hO := hO.mv hE rfl rfl
 replace hAmb := hAmb.mv hE rfl
 replace h107 := h107.mv hE rfl
 replace h110 := h110.mv hE rfl
 replace h121 := h121.mv hE rfl
 replace h124 := h124.mv hE rfl
 obtain ⟨a139, c140, a142, c143, hp, h141, h144⟩ := hp
 obtain ⟨r138, hr⟩ : ∃ r, verdict_Parse ([109, 97, 108, 102, 111, 114, 109, 101, 100, 32, 53, 32, 52] : List UInt8) = r := ⟨_, rfl⟩
 replace hm := hm r138 hr
 rw [hr] at hp h141 h144
 clear hr
 subst hp
 replace hm := hm (h141.sm kr)
 replace hm := hm (h144.sm kr)
 refine eM T hS ⟨[(1, Pt 2 0), (2, I r104.2.1), (3, I r104.2.2), (4, Z r114.1), (5, I r114.2), (6, Pt 7 0), (8, I r118.2.2), (10, I r128.2.1), (11, I r128.2.2), (12, Pt 13 0), (14, I r138.2.2)], [(2, (27, [I r104.1.Kind, I r104.1.At, I r104.1.Err, Sl a105 r104.1.Picks c106, Sl a108 r104.1.Proof c109])), (7, (27, [I r118.1.Kind, I r118.1.At, I r118.1.Err, Sl a119 r118.1.Picks c120, Sl a122 r118.1.Proof c123])), (13, (27, [I r138.1.Kind, I r138.1.At, I r138.1.Err, Sl a139 r138.1.Picks c140, Sl a142 r138.1.Proof c143]))]⟩ fun ρ a w184 χ185 hS hE hr => ?_
 replace hO := hO.mv hE rfl rfl
 replace hAmb := hAmb.mv hE rfl
 replace h107 := h107.mv hE rfl
 replace h110 := h110.mv hE rfl
 replace h121 := h121.mv hE rfl
 replace h124 := h124.mv hE rfl
 replace h141 := h141.mv hE rfl
 replace h144 := h144.mv hE rfl
 clear hE hr
 refine regO ?_
 refine op1 (call hS kr kr hb6 kr (fun _ _ => rfl) (k6 _ _ ([116, 111, 111, 108, 97, 114, 103, 101, 32, 49] : List UInt8)) ?_)
 intro v145 a w146 χ147 hE hp hS
 replace hO := hO.mv hE rfl rfl
 replace hAmb := hAmb.mv hE rfl
 replace h107 := h107.mv hE rfl
 replace h110 := h110.mv hE rfl
 replace h121 := h121.mv hE rfl
 replace h124 := h124.mv hE rfl
 replace h141 := h141.mv hE rfl
 replace h144 := h144.mv hE rfl
 obtain ⟨a149, c150, a152, c153, hp, h151, h154⟩ := hp
 obtain ⟨r148, hr⟩ : ∃ r, verdict_Parse ([116, 111, 111, 108, 97, 114, 103, 101, 32, 49] : List UInt8) = r := ⟨_, rfl⟩
 replace hm := hm r148 hr
 rw [hr] at hp h151 h154
 clear hr
 subst hp
 replace hm := hm (h151.sm kr)
 replace hm := hm (h154.sm kr)
 refine eM T hS ⟨[(1, Pt 2 0), (2, I r104.2.1), (3, I r104.2.2), (4, Z r114.1), (5, I r114.2), (6, Pt 7 0), (8, I r118.2.2), (10, I r128.2.1), (11, I r128.2.2), (12, Pt 13 0), (14, I r138.2.2), (16, I r148.2.1), (17, I r148.2.2)], [(2, (27, [I r104.1.Kind, I r104.1.At, I r104.1.Err, Sl a105 r104.1.Picks c106, Sl a108 r104.1.Proof c109])), (7, (27, [I r118.1.Kind, I r118.1.At, I r118.1.Err, Sl a119 r118.1.Picks c120, Sl a122 r118.1.Proof c123])), (13, (27, [I r138.1.Kind, I r138.1.At, I r138.1.Err, Sl a139 r138.1.Picks c140, Sl a142 r138.1.Proof c143]))]⟩ fun ρ a w182 χ183 hS hE hr => ?_
 replace hO := hO.mv hE rfl rfl
 replace hAmb := hAmb.mv hE rfl
 replace h107 := h107.mv hE rfl
 replace h110 := h110.mv hE rfl
 replace h121 := h121.mv hE rfl
 replace h124 := h124.mv hE rfl
 replace h141 := h141.mv hE rfl
 replace h144 := h144.mv hE rfl
 clear hE hr
 refine regO ?_
 refine oP T hS 13 ⟨[(1, Pt 2 0), (4, Z r114.1), (5, I r114.2), (6, Pt 7 0), (8, I r118.2.2), (10, I r128.2.1), (11, I r128.2.2), (12, Pt 13 0), (14, I r138.2.2), (16, I r148.2.1), (17, I r148.2.2), (60, B (((r104.2.2 == 0) && (r104.2.1 == 24)) && ((lN r104.1.Picks) == 1)))], [(2, (27, [I r104.1.Kind, I r104.1.At, I r104.1.Err, Sl a105 r104.1.Picks c106, Sl a108 r104.1.Proof c109])), (7, (27, [I r118.1.Kind, I r118.1.At, I r118.1.Err, Sl a119 r118.1.Picks c120, Sl a122 r118.1.Proof c123])), (13, (27, [I r138.1.Kind, I r138.1.At, I r138.1.Err, Sl a139 r138.1.Picks c140, Sl a142 r138.1.Proof c143]))]⟩ (sp := [50, 54]) fun a hS => ?_
 rcases Bool.eq_false_or_eq_true (((r104.2.2 == 0) && (r104.2.1 == 24)) && ((lN r104.1.Picks) == 1)) with hb | hb
 ·replace hS := hS.lit (t := 60) kr hb
  replace hm := hm.1 hb
  refine oP T hS 2 ⟨[(1, Pt 2 0), (4, Z r114.1), (5, I r114.2), (6, Pt 7 0), (8, I r118.2.2), (10, I r128.2.1), (11, I r128.2.2), (12, Pt 13 0), (14, I r138.2.2), (16, I r148.2.1), (17, I r148.2.2), (60, B true), (62, Sl a105 r104.1.Picks c106)], [(2, (27, [I r104.1.Kind, I r104.1.At, I r104.1.Err, Sl a105 r104.1.Picks c106, Sl a108 r104.1.Proof c109])), (7, (27, [I r118.1.Kind, I r118.1.At, I r118.1.Err, Sl a119 r118.1.Picks c120, Sl a122 r118.1.Proof c123])), (13, (27, [I r138.1.Kind, I r138.1.At, I r138.1.Err, Sl a139 r138.1.Picks c140, Sl a142 r138.1.Proof c143]))]⟩ fun a hS => ?_
  obtain ⟨hq, hm⟩ := hm
  refine op1 (index (e := 44) (k := .i64) T hS kr kr kr kr h107 kr kr hq.1 hq.2 ?_)
  intro A155 a h156 hS
  refine op1 (loadA T hS kr kr kr h156 kr kr ?_)
  intro v157 a hv hS
  subst hv
  refine oP T hS 1 ⟨[(1, Pt 2 0), (4, Z r114.1), (5, I r114.2), (6, Pt 7 0), (8, I r118.2.2), (10, I r128.2.1), (11, I r128.2.2), (12, Pt 13 0), (14, I r138.2.2), (16, I r148.2.1), (17, I r148.2.2), (60, B true), (64, V (.agg #[.int .i64 ((gi r104.1.Picks 0).Oper), .int .i64 ((gi r104.1.Picks 0).Result)])), (65, V (.agg #[.int .i64 0, .int .i64 7]))], [(2, (27, [I r104.1.Kind, I r104.1.At, I r104.1.Err, Sl a105 r104.1.Picks c106, Sl a108 r104.1.Proof c109])), (7, (27, [I r118.1.Kind, I r118.1.At, I r118.1.Err, Sl a119 r118.1.Picks c120, Sl a122 r118.1.Proof c123])), (13, (27, [I r138.1.Kind, I r138.1.At, I r138.1.Err, Sl a139 r138.1.Picks c140, Sl a142 r138.1.Proof c143]))]⟩ fun a hS => ?_
  refine op1 (structEq (op := .eql) (xs := [.int .i64 ((gi r104.1.Picks 0).Oper), .int .i64 ((gi r104.1.Picks 0).Result)]) (ys := [.int .i64 0, .int .i64 7]) (r := (((gi r104.1.Picks 0).Oper) == 0 && (((gi r104.1.Picks 0).Result) == 7 && true))) (b := (((gi r104.1.Picks 0).Oper) == 0 && (((gi r104.1.Picks 0).Result) == 7 && true))) T hS kr kr kr kr kr kr kr kr ?_)
  intro a hS
  refine oP T hS 50 ⟨[(1, Pt 2 0), (6, Pt 7 0), (116, B ((((((((((((((gi r104.1.Picks 0).Oper) == 0 && (((gi r104.1.Picks 0).Result) == 7 && true)) && (r114.2 == 0)) && (r114.1 == ([108, 105, 110, 101, 97, 114, 105, 122, 97, 98, 108, 101, 32, 49, 10, 112, 105, 99, 107, 32, 48, 32, 55, 10] : List UInt8))) && (r118.2.2 == 0)) && ((lN r118.1.Proof) == 1)) && (r128.2.1 == 23)) && (r128.2.2 == 4)) && (r138.2.2 == 0)) && (r138.1.At == 5)) && (r138.1.Err == 4)) && (r148.2.1 == 9)) && (r148.2.2 == 6)))], [(2, (27, [I r104.1.Kind, I r104.1.At, I r104.1.Err, Sl a105 r104.1.Picks c106, Sl a108 r104.1.Proof c109])), (7, (27, [I r118.1.Kind, I r118.1.At, I r118.1.Err, Sl a119 r118.1.Picks c120, Sl a122 r118.1.Proof c123]))]⟩ (sp := [68, 72, 76, 80, 86, 90, 94, 98, 103, 108, 112]) fun a hS => ?_
  rcases Bool.eq_false_or_eq_true ((((((((((((((gi r104.1.Picks 0).Oper) == 0 && (((gi r104.1.Picks 0).Result) == 7 && true)) && (r114.2 == 0)) && (r114.1 == ([108, 105, 110, 101, 97, 114, 105, 122, 97, 98, 108, 101, 32, 49, 10, 112, 105, 99, 107, 32, 48, 32, 55, 10] : List UInt8))) && (r118.2.2 == 0)) && ((lN r118.1.Proof) == 1)) && (r128.2.1 == 23)) && (r128.2.2 == 4)) && (r138.2.2 == 0)) && (r138.1.At == 5)) && (r138.1.Err == 4)) && (r148.2.1 == 9)) && (r148.2.2 == 6)) with hb | hb
  ·replace hS := hS.lit (t := 116) kr hb
   replace hm := hm.1 hb
   refine oP T hS 1 ⟨[(1, Pt 2 0), (6, Pt 7 0), (116, B true), (117, V (.agg #[.int .i64 r104.1.Kind, .int .i64 r104.1.At, .int .i64 r104.1.Err, .slice a105 r104.1.Picks.length c106, .slice a108 r104.1.Proof.length c109]))], [(2, (27, [I r104.1.Kind, I r104.1.At, I r104.1.Err, Sl a105 r104.1.Picks c106, Sl a108 r104.1.Proof c109])), (7, (27, [I r118.1.Kind, I r118.1.At, I r118.1.Err, Sl a119 r118.1.Picks c120, Sl a122 r118.1.Proof c123]))]⟩ fun a hS => ?_
   refine op1 (call hS kr kr hb12 kr (fun _ _ => rfl) (k12 _ _ r104.1 a105 c106 a108 c109 h107 h110) ?_)
   intro v158 a w159 χ160 hE hp hS
   replace hO := hO.mv hE rfl rfl
   replace hAmb := hAmb.mv hE rfl
   replace h107 := h107.mv hE rfl
   replace h110 := h110.mv hE rfl
   replace h121 := h121.mv hE rfl
   replace h124 := h124.mv hE rfl
   obtain ⟨r161, hr⟩ : ∃ r, verdict_Check r104.1 = r := ⟨_, rfl⟩
   replace hm := hm r161 hr
   rw [hr] at hp
   clear hr
   subst hp
   refine oP T hS 3 ⟨[(1, Pt 2 0), (6, Pt 7 0), (121, B (r161 == 0))], [(2, (27, [I r104.1.Kind, I r104.1.At, I r104.1.Err, Sl a105 r104.1.Picks c106, Sl a108 r104.1.Proof c109])), (7, (27, [I r118.1.Kind, I r118.1.At, I r118.1.Err, Sl a119 r118.1.Picks c120, Sl a122 r118.1.Proof c123]))]⟩ fun a hS => ?_
   rcases Bool.eq_false_or_eq_true (r161 == 0) with hb | hb
   ·replace hS := hS.lit (t := 121) kr hb
    replace hm := hm.1 hb
    refine oP T hS 1 ⟨[(1, Pt 2 0), (6, Pt 7 0), (121, B true), (122, V (.agg #[.int .i64 0, .int .i64 0, .int .i64 0, .slice none 0 0, .slice none 0 0]))], [(2, (27, [I r104.1.Kind, I r104.1.At, I r104.1.Err, Sl a105 r104.1.Picks c106, Sl a108 r104.1.Proof c109])), (7, (27, [I r118.1.Kind, I r118.1.At, I r118.1.Err, Sl a119 r118.1.Picks c120, Sl a122 r118.1.Proof c123]))]⟩ fun a hS => ?_
    refine op1 (call hS kr kr hb12 kr (fun _ _ => rfl) (k12 _ _ (⟨0, 0, 0, [], []⟩ : Api_Verdict) none 0 none 0 (RS.empty _ _ _) (RS.empty _ _ _)) ?_)
    intro v162 a w163 χ164 hE hp hS
    replace hO := hO.mv hE rfl rfl
    replace hAmb := hAmb.mv hE rfl
    replace h107 := h107.mv hE rfl
    replace h110 := h110.mv hE rfl
    replace h121 := h121.mv hE rfl
    replace h124 := h124.mv hE rfl
    obtain ⟨r165, hr⟩ : ∃ r, verdict_Check (⟨0, 0, 0, [], []⟩ : Api_Verdict) = r := ⟨_, rfl⟩
    replace hm := hm r165 hr
    rw [hr] at hp
    clear hr
    subst hp
    refine oP T hS 3 ⟨[(1, Pt 2 0), (6, Pt 7 0), (126, B (r165 == 31))], [(2, (27, [I r104.1.Kind, I r104.1.At, I r104.1.Err, Sl a105 r104.1.Picks c106, Sl a108 r104.1.Proof c109])), (7, (27, [I r118.1.Kind, I r118.1.At, I r118.1.Err, Sl a119 r118.1.Picks c120, Sl a122 r118.1.Proof c123]))]⟩ fun a hS => ?_
    rcases Bool.eq_false_or_eq_true (r165 == 31) with hb | hb
    ·replace hS := hS.lit (t := 126) kr hb
     replace hm := hm.1 hb
     refine oP T hS 2 ⟨[(1, Pt 2 0), (6, Pt 7 0), (126, B true), (127, V (.agg #[.int .i64 r104.1.Kind, .int .i64 r104.1.At, .int .i64 r104.1.Err, .slice a105 r104.1.Picks.length c106, .slice a108 r104.1.Proof.length c109])), (128, V (.agg #[.int .i64 r104.1.Kind, .int .i64 r104.1.At, .int .i64 r104.1.Err, .slice a105 r104.1.Picks.length c106, .slice a108 r104.1.Proof.length c109]))], [(2, (27, [I r104.1.Kind, I r104.1.At, I r104.1.Err, Sl a105 r104.1.Picks c106, Sl a108 r104.1.Proof c109])), (7, (27, [I r118.1.Kind, I r118.1.At, I r118.1.Err, Sl a119 r118.1.Picks c120, Sl a122 r118.1.Proof c123]))]⟩ fun a hS => ?_
     refine op1 (call hS kr kr hb14 kr (fun _ _ => rfl) (k14 _ _ r104.1 r104.1 a105 c106 a108 c109 a105 c106 a108 c109 h107 h110 h107 h110) ?_)
     intro v166 a w167 χ168 hE hp hS
     replace hO := hO.mv hE rfl rfl
     replace hAmb := hAmb.mv hE rfl
     replace h107 := h107.mv hE rfl
     replace h110 := h110.mv hE rfl
     replace h121 := h121.mv hE rfl
     replace h124 := h124.mv hE rfl
     obtain ⟨r169, hr⟩ : ∃ r, verdict_Same r104.1 r104.1 = r := ⟨_, rfl⟩
     replace hm := hm r169 hr
     rw [hr] at hp
     clear hr
     subst hp
     refine oP T hS 2 ⟨[(1, Pt 2 0), (6, Pt 7 0), (131, B r169)], [(2, (27, [I r104.1.Kind, I r104.1.At, I r104.1.Err, Sl a105 r104.1.Picks c106, Sl a108 r104.1.Proof c109])), (7, (27, [I r118.1.Kind, I r118.1.At, I r118.1.Err, Sl a119 r118.1.Picks c120, Sl a122 r118.1.Proof c123]))]⟩ fun a hS => ?_
     rcases Bool.eq_false_or_eq_true r169 with hb | hb
     ·replace hS := hS.lit (t := 131) kr hb
      replace hm := hm.1 hb
      refine oP T hS 2 ⟨[(131, B true), (132, V (.agg #[.int .i64 r104.1.Kind, .int .i64 r104.1.At, .int .i64 r104.1.Err, .slice a105 r104.1.Picks.length c106, .slice a108 r104.1.Proof.length c109])), (133, V (.agg #[.int .i64 r118.1.Kind, .int .i64 r118.1.At, .int .i64 r118.1.Err, .slice a119 r118.1.Picks.length c120, .slice a122 r118.1.Proof.length c123]))], []⟩ fun a hS => ?_
      refine op1 (call hS kr kr hb14 kr (fun _ _ => rfl) (k14 _ _ r104.1 r118.1 a105 c106 a108 c109 a119 c120 a122 c123 h107 h110 h121 h124) ?_)
      intro v170 a w171 χ172 hE hp hS
      replace hO := hO.mv hE rfl rfl
      replace hAmb := hAmb.mv hE rfl
      replace h107 := h107.mv hE rfl
      replace h110 := h110.mv hE rfl
      replace h121 := h121.mv hE rfl
      replace h124 := h124.mv hE rfl
      obtain ⟨r173, hr⟩ : ∃ r, verdict_Same r104.1 r118.1 = r := ⟨_, rfl⟩
      replace hm := hm r173 hr
      rw [hr] at hp
      clear hr
      subst hp
      refine oP T hS 3 ⟨[(137, B (!r173))], []⟩ fun a hS => ?_
      rcases Bool.eq_false_or_eq_true (!r173) with hb | hb
      ·replace hS := hS.lit (t := 137) kr hb
       replace hm := hm.1 hb
       refine op1 (call hS kr kr hb15 kr (fun _ _ => rfl) (k15 _ _ 3) ?_)
       intro v174 a w175 χ176 hE hp hS
       replace hO := hO.mv hE rfl rfl
       replace hAmb := hAmb.mv hE rfl
       obtain ⟨r177, hr⟩ : ∃ r, verdict_Word 3 = r := ⟨_, rfl⟩
       replace hm := hm r177 hr
       rw [hr] at hp
       clear hr
       subst hp
       refine oP T hS 3 ⟨[(141, B (r177 == ([98, 117, 100, 103, 101, 116, 111, 117, 116] : List UInt8)))], []⟩ fun a hS => ?_
       rcases Bool.eq_false_or_eq_true (r177 == ([98, 117, 100, 103, 101, 116, 111, 117, 116] : List UInt8)) with hb | hb
       ·replace hS := hS.lit (t := 141) kr hb
        replace hm := hm.1 hb
        refine op1 (call hS kr kr hb15 kr (fun _ _ => rfl) (k15 _ _ 6) ?_)
        intro v178 a w179 χ180 hE hp hS
        replace hO := hO.mv hE rfl rfl
        replace hAmb := hAmb.mv hE rfl
        obtain ⟨r181, hr⟩ : ∃ r, verdict_Word 6 = r := ⟨_, rfl⟩
        replace hm := hm r181 hr
        rw [hr] at hp
        clear hr
        subst hp
        refine eP T hS ⟨[(0, B (r181 == ([] : List UInt8)))], []⟩ fun a hS => ?_
        refine wret ?_
        exact fin T hS hO (fun c => c) rfl (r := [.bool (r181 == ([] : List UInt8))]) kr (fun χ' hM hC => ⟨(r181 == ([] : List UInt8)), hm, rfl⟩)
       replace hS := hS.lit (t := 141) kr hb
       replace hm := hm.2 hb
       refine eP T hS ⟨[(0, B false)], []⟩ fun a hS => ?_
       refine wret ?_
       exact fin T hS hO (fun c => c) rfl (r := [.bool false]) kr (fun χ' hM hC => ⟨false, hm, rfl⟩)
      replace hS := hS.lit (t := 137) kr hb
      replace hm := hm.2 hb
      refine eP T hS ⟨[(0, B false)], []⟩ fun a hS => ?_
      refine wret ?_
      exact fin T hS hO (fun c => c) rfl (r := [.bool false]) kr (fun χ' hM hC => ⟨false, hm, rfl⟩)
     replace hS := hS.lit (t := 131) kr hb
     replace hm := hm.2 hb
     refine eP T hS ⟨[(0, B false)], []⟩ fun a hS => ?_
     refine wret ?_
     exact fin T hS hO (fun c => c) rfl (r := [.bool false]) kr (fun χ' hM hC => ⟨false, hm, rfl⟩)
    replace hS := hS.lit (t := 126) kr hb
    replace hm := hm.2 hb
    refine eP T hS ⟨[(0, B false)], []⟩ fun a hS => ?_
    refine wret ?_
    exact fin T hS hO (fun c => c) rfl (r := [.bool false]) kr (fun χ' hM hC => ⟨false, hm, rfl⟩)
   replace hS := hS.lit (t := 121) kr hb
   replace hm := hm.2 hb
   refine eP T hS ⟨[(0, B false)], []⟩ fun a hS => ?_
   refine wret ?_
   exact fin T hS hO (fun c => c) rfl (r := [.bool false]) kr (fun χ' hM hC => ⟨false, hm, rfl⟩)
  replace hS := hS.lit (t := 116) kr hb
  replace hm := hm.2 hb
  refine eP T hS ⟨[(0, B false)], []⟩ fun a hS => ?_
  refine wret ?_
  exact fin T hS hO (fun c => c) rfl (r := [.bool false]) kr (fun χ' hM hC => ⟨false, hm, rfl⟩)
 replace hS := hS.lit (t := 60) kr hb
 replace hm := hm.2 hb
 refine eP T hS ⟨[(0, B false)], []⟩ fun a hS => ?_
 refine wret ?_
 exact fin T hS hO (fun c => c) rfl (r := [.bool false]) kr (fun χ' hM hC => ⟨false, hm, rfl⟩)
theorem C5 (k10 : S10) (k12 : S12) (k14 : S14) (k15 : S15) (k6 : S6) (v : ∀ (_ : Unit), VC5 (fun r => r = law39_awake)) : S5 := by
 intro w χ     hAmb
 refine (W5 k10 k12 k14 k15 k6 w χ     _ (v ()) hAmb).mono ?_
 rintro _ _ _ _ ⟨r, rfl, h⟩
 exact h
end Go.Proofs.YtkgcdoeldilhaaaGreatDoor
