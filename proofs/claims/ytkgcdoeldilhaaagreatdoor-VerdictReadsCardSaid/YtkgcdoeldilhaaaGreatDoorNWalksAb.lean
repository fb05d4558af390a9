/- Walks: each function returns what its condition asks. Condition: the contracts of its callees, handed in. -/
import Derived.Test.YtkgcdoeldilhaaaGreatDoorNWalksS
set_option linter.all false
namespace Go.Proofs.YtkgcdoeldilhaaaGreatDoor
open Go Go.Sv
set_option maxHeartbeats 1000000
theorem W73 (k75 : S75) (k87 : S87) (w0 : World) (χ0 : Nat → Nat) (lo : Int) (hi : Int) (cap1 : Proof_line) (a1 : Option Addr) (c1 : Nat) (b1 : Nat) (i1 : Nat) (Q : Int × Int × Bool × Proof_line → Prop) (hm : VC73 lo hi cap1 Q) (h1 : RS tToken_Token w0 χ0 a1 cap1.rest c1) (hc1 : Cell w0 χ0 b1 i1 96 [.slice a1 cap1.rest.length c1, .int .i64 cap1.at_, .int .i64 cap1.e]) (hA : Apart [i1]) :
  Ret Tryz.prog 73 #[.pointer (some ⟨b1, 0, none⟩), .int .i64 lo, .int .i64 hi] (pR [i1]) w0 χ0 (fun w χ' v => ∃ r, Q r ∧ ∃ (ra1 : Option Addr) (rc1 : Nat), v = .tuple #[.int .i64 r.1, .int .i64 r.2.1, .bool r.2.2.1] ∧ RS tToken_Token w χ' ra1 r.2.2.2.rest rc1 ∧ Cell w χ' b1 i1 96 [.slice ra1 r.2.2.2.rest.length rc1, .int .i64 r.2.2.2.at_, .int .i64 r.2.2.2.e]) := by
 unfold VC73 at hm
 replace hm := hm (h1.sm kr)
 refine enterR Tryz.func73 rfl (f0of [(i1, 901)]) (fun id => (bif Nat.beq id 901 then b1 else 0)) (args := [Pt 901 0, I lo, I hi]) (bxs := [(901, (96, [Sl a1 cap1.rest c1, I cap1.at_, I cap1.e]))]) kr rfl (BoxesOK.cons kr (hc1.map (f0of_at 0 hA.1 rfl)) BoxesOK.nil) (f0of_0 (fun q hq => (hA.2 q.1 (List.mem_map.2 ⟨q, hq, rfl⟩)).1)) ?_
 intro a hS hO hM
 have hP : Pin [(901, b1)] (fun id => (bif Nat.beq id 901 then b1 else 0)) := by intro q hq; simp at hq; rcases hq with rfl <;> rfl
 generalize (fun id => (bif Nat.beq id 901 then b1 else 0)) = ρ at hS hP
 clear hc1
 replace h1 := h1.m0 hM
 clear hM
 refine rP T hS ⟨[(0, Pt 901 0), (1, I lo), (2, I hi)], [(901, (96, [Sl a1 cap1.rest c1, I cap1.at_, I cap1.e]))]⟩ fun a hS => ?_
 refine wseq (rP T hS ⟨[(0, Pt 901 0), (1, I lo), (2, I hi), (16, B (cap1.e != 0))], [(901, (96, [Sl a1 cap1.rest c1, I cap1.at_, I cap1.e]))]⟩ fun a hS => ?_)
 refine wcond hS (b := (cap1.e != 0)) kr (fun hb => ?_) (fun hb => ?_)
 ·replace hm := hm.1 hb
  refine rP T hS ⟨[(6, I 0), (7, I 0), (8, B false)], [(901, (96, [Sl a1 cap1.rest c1, I cap1.at_, I cap1.e]))]⟩ fun a hS => ?_
  refine wret ?_
  exact finR T hS hO (fun c h => f0of_zero kr h) (fun c h => f0of_else (l := [(i1, 901)]) h) (f1of [(i1, 901)]) rfl (r := [.int .i64 0, .int .i64 0, .bool false]) kr (fun χ' hM hC => ⟨(0, 0, false, cap1), hm, a1, c1, rfl, h1.m0 hM, ((hS.cell (id := 901) (t := 96) (cs := [Sl a1 cap1.rest c1, I cap1.at_, I cap1.e]) kr).out (f := (f1of [(i1, 901)])) hC kr kr (hP.at 0 rfl))⟩)
 replace hm := hm.2 hb
 refine wskip ?_
 refine wseq (rP T hS ⟨[(0, Pt 901 0), (1, I lo), (2, I hi), (22, B ((lN cap1.rest) == 0))], [(901, (96, [Sl a1 cap1.rest c1, I cap1.at_, I cap1.e]))]⟩ fun a hS => ?_)
 refine wcond hS (b := ((lN cap1.rest) == 0)) kr (fun hb => ?_) (fun hb => ?_)
 ·replace hm := hm.1 hb
  refine regO ?_
  refine oP T hS 5 ⟨[(23, Pt 901 0), (27, I cap1.at_)], [(901, (96, [Sl a1 cap1.rest c1, I cap1.at_, I cap1.e]))]⟩ fun a hS => ?_
  refine op1 (callR hS kr kr hb75 kr (k75 _ _ cap1.at_ 4 cap1 a1 c1 (ρ 901) 901 h1 (hS.cell (id := 901) (t := 96) (cs := [Sl a1 cap1.rest c1, I cap1.at_, I cap1.e]) kr) ⟨by decide, by decide⟩) ?_)
  intro v101 a w102 χ103 hE hp hS
  replace hO := hO.mv hE rfl rfl
  replace h1 := h1.mv hE rfl
  obtain ⟨a105, c106, hp, h107, hc108⟩ := hp
  obtain ⟨r104, hr⟩ : ∃ r, proof_line_wrong cap1.at_ 4 cap1 = r := ⟨_, rfl⟩
  replace hm := hm r104 hr
  rw [hr] at h107 hc108
  clear hr
  subst hp
  replace hm := hm (h107.sm kr)
  replace hS := hS.addbox (id := 901) (t := 96) (cs := [Sl a105 r104.rest c106, I r104.at_, I r104.e]) kr hc108
  clear hc108
  refine doneK ?_
  refine rP T hS ⟨[(6, I 0), (7, I 0), (8, B false)], [(901, (96, [Sl a105 r104.rest c106, I r104.at_, I r104.e]))]⟩ fun a hS => ?_
  refine wret ?_
  exact finR T hS hO (fun c h => f0of_zero kr h) (fun c h => f0of_else (l := [(i1, 901)]) h) (f1of [(i1, 901)]) rfl (r := [.int .i64 0, .int .i64 0, .bool false]) kr (fun χ' hM hC => ⟨(0, 0, false, r104), hm, a105, c106, rfl, h107.m0 hM, ((hS.cell (id := 901) (t := 96) (cs := [Sl a105 r104.rest c106, I r104.at_, I r104.e]) kr).out (f := (f1of [(i1, 901)])) hC kr kr (hP.at 0 rfl))⟩)
 replace hm := hm.2 hb
 refine wskip ?_
 refine regO ?_
 refine oP T hS 4 ⟨[(0, Pt 901 0), (1, I lo), (2, I hi), (32, Sl a1 cap1.rest c1)], [(901, (96, [Sl a1 cap1.rest c1, I cap1.at_, I cap1.e]))]⟩ fun a hS => ?_
 obtain ⟨hq, hm⟩ := hm
 refine op1 (index (e := 60) (k := .i64) T hS kr kr kr kr h1 kr kr hq.1 hq.2 ?_)
 intro A109 a h110 hS
 refine op1 (loadA T hS kr kr kr h110 kr kr ?_)
 intro v111 a hv hS
 subst hv
 refine eM T hS ⟨[(0, Pt 901 0), (1, I lo), (2, I hi), (9, Pt 10 0)], [(10, (60, [I ((gi cap1.rest 0).Line), I ((gi cap1.rest 0).At), Z ((gi cap1.rest 0).Text)])), (901, (96, [Sl a1 cap1.rest c1, I cap1.at_, I cap1.e]))]⟩ fun ρ a w133 χ134 hS hE hr => ?_
 replace hO := hO.mv hE rfl rfl
 replace h1 := h1.mv hE rfl
 replace hP := hP.mv hr kr
 clear hE hr
 refine regO ?_
 refine oP T hS 5 ⟨[(0, Pt 901 0), (1, I lo), (2, I hi), (9, Pt 10 0), (35, Pt 901 0), (39, Sl a1 cap1.rest c1)], [(10, (60, [I ((gi cap1.rest 0).Line), I ((gi cap1.rest 0).At), Z ((gi cap1.rest 0).Text)])), (901, (96, [Sl a1 cap1.rest c1, I cap1.at_, I cap1.e]))]⟩ fun a hS => ?_
 obtain ⟨hq, hm⟩ := hm
 refine op1 (slice1 (E := 60) (kl := .i64) T hS kr kr kr kr h1 kr kr hq.1 hq.2 ?_)
 intro a112 c113 a h114 hS
 refine eM T hS ⟨[(0, Pt 901 0), (1, I lo), (2, I hi), (9, Pt 10 0)], [(10, (60, [I ((gi cap1.rest 0).Line), I ((gi cap1.rest 0).At), Z ((gi cap1.rest 0).Text)])), (901, (96, [Sl a112 (cap1.rest.drop (1 : Int).toNat) c113, I cap1.at_, I cap1.e]))]⟩ fun ρ a w131 χ132 hS hE hr => ?_
 replace hO := hO.mv hE rfl rfl
 replace h114 := h114.mv hE rfl
 replace hP := hP.mv hr kr
 clear hE hr
 refine regO ?_
 refine oP T hS 4 ⟨[(0, Pt 901 0), (9, Pt 10 0), (45, Z ((gi cap1.rest 0).Text)), (46, I lo), (47, I hi)], [(10, (60, [I ((gi cap1.rest 0).Line), I ((gi cap1.rest 0).At), Z ((gi cap1.rest 0).Text)])), (901, (96, [Sl a112 (cap1.rest.drop (1 : Int).toNat) c113, I cap1.at_, I cap1.e]))]⟩ fun a hS => ?_
 obtain ⟨hq, hm⟩ := hm
 refine op1 (call hS kr kr hb87 kr (fun _ _ => rfl) (k87 _ _ ((gi cap1.rest 0).Text) lo hi hq) ?_)
 intro v115 a w116 χ117 hE hp hS
 replace hO := hO.mv hE rfl rfl
 replace h114 := h114.mv hE rfl
 obtain ⟨r118, hr⟩ : ∃ r, token_Number ((gi cap1.rest 0).Text) lo hi = r := ⟨_, rfl⟩
 replace hm := hm r118 hr
 rw [hr] at hp
 clear hr
 subst hp
 refine eP T hS ⟨[(0, Pt 901 0), (9, Pt 10 0), (10, I r118.1), (11, I r118.2)], [(10, (60, [I ((gi cap1.rest 0).Line), I ((gi cap1.rest 0).At), Z ((gi cap1.rest 0).Text)])), (901, (96, [Sl a112 (cap1.rest.drop (1 : Int).toNat) c113, I cap1.at_, I cap1.e]))]⟩ fun a hS => ?_
 refine wseq (rP T hS ⟨[(0, Pt 901 0), (9, Pt 10 0), (10, I r118.1), (11, I r118.2), (52, B (r118.2 != 0))], [(10, (60, [I ((gi cap1.rest 0).Line), I ((gi cap1.rest 0).At), Z ((gi cap1.rest 0).Text)])), (901, (96, [Sl a112 (cap1.rest.drop (1 : Int).toNat) c113, I cap1.at_, I cap1.e]))]⟩ fun a hS => ?_)
 refine wcond hS (b := (r118.2 != 0)) kr (fun hb => ?_) (fun hb => ?_)
 ·replace hm := hm.1 hb
  refine regO ?_
  refine oP T hS 4 ⟨[(53, Pt 901 0), (55, I ((gi cap1.rest 0).At)), (56, I r118.2)], [(901, (96, [Sl a112 (cap1.rest.drop (1 : Int).toNat) c113, I cap1.at_, I cap1.e]))]⟩ fun a hS => ?_
  refine op1 (callR hS kr kr hb75 kr (k75 _ _ ((gi cap1.rest 0).At) r118.2 (⟨cap1.rest.drop (1 : Int).toNat, cap1.at_, cap1.e⟩ : Proof_line) a112 c113 (ρ 901) 901 h114 (hS.cell (id := 901) (t := 96) (cs := [Sl a112 (cap1.rest.drop (1 : Int).toNat) c113, I cap1.at_, I cap1.e]) kr) ⟨by decide, by decide⟩) ?_)
  intro v119 a w120 χ121 hE hp hS
  replace hO := hO.mv hE rfl rfl
  replace h114 := h114.mv hE rfl
  obtain ⟨a123, c124, hp, h125, hc126⟩ := hp
  obtain ⟨r122, hr⟩ : ∃ r, proof_line_wrong ((gi cap1.rest 0).At) r118.2 (⟨cap1.rest.drop (1 : Int).toNat, cap1.at_, cap1.e⟩ : Proof_line) = r := ⟨_, rfl⟩
  replace hm := hm r122 hr
  rw [hr] at h125 hc126
  clear hr
  subst hp
  replace hm := hm (h125.sm kr)
  replace hS := hS.addbox (id := 901) (t := 96) (cs := [Sl a123 r122.rest c124, I r122.at_, I r122.e]) kr hc126
  clear hc126
  refine doneK ?_
  refine rP T hS ⟨[(6, I 0), (7, I 0), (8, B false)], [(901, (96, [Sl a123 r122.rest c124, I r122.at_, I r122.e]))]⟩ fun a hS => ?_
  refine wret ?_
  exact finR T hS hO (fun c h => f0of_zero kr h) (fun c h => f0of_else (l := [(i1, 901)]) h) (f1of [(i1, 901)]) rfl (r := [.int .i64 0, .int .i64 0, .bool false]) kr (fun χ' hM hC => ⟨(0, 0, false, r122), hm, a123, c124, rfl, h125.m0 hM, ((hS.cell (id := 901) (t := 96) (cs := [Sl a123 r122.rest c124, I r122.at_, I r122.e]) kr).out (f := (f1of [(i1, 901)])) hC kr kr (hP.at 0 rfl))⟩)
 replace hm := hm.2 hb
 refine wskip ?_
 refine rM T hS ⟨[(9, Pt 10 0), (10, I r118.1)], [(10, (60, [I ((gi cap1.rest 0).Line), I ((gi cap1.rest 0).At), Z ((gi cap1.rest 0).Text)])), (901, (96, [Sl a112 (cap1.rest.drop (1 : Int).toNat) c113, I (wR (((gi cap1.rest 0).At) + (lN ((gi cap1.rest 0).Text)))), I cap1.e]))]⟩ fun ρ a w129 χ130 hS hE hr => ?_
 replace hO := hO.mv hE rfl rfl
 replace h114 := h114.mv hE rfl
 replace hP := hP.mv hr kr
 clear hE hr
 refine drawnSX [10, 901] mixed hS ?_
 intro w127 χ128 hS hE hD hH
 replace hO := hO.mv hE rfl rfl
 replace h114 := h114.mv hE rfl
 refine tk T [0, 1, 2, 3, 4, 5] [10, 901] hS hH #[true, true, true, true, true, true] 0 ⟨[(6, I r118.1), (7, I ((gi cap1.rest 0).At)), (8, B true)], [(10, (60, [I ((gi cap1.rest 0).Line), I ((gi cap1.rest 0).At), Z ((gi cap1.rest 0).Text)])), (901, (96, [Sl a112 (cap1.rest.drop (1 : Int).toNat) c113, I (wR (((gi cap1.rest 0).At) + (lN ((gi cap1.rest 0).Text)))), I cap1.e]))]⟩ fun a hS => ?_
 refine drawnDone kr ?_
 clear hD hH
 replace hS := hS.sl ⟨[(6, I r118.1), (7, I ((gi cap1.rest 0).At)), (8, B true)], [(901, (96, [Sl a112 (cap1.rest.drop (1 : Int).toNat) c113, I (wR (((gi cap1.rest 0).At) + (lN ((gi cap1.rest 0).Text)))), I cap1.e]))]⟩
 refine wret ?_
 exact finR T hS hO (fun c h => f0of_zero kr h) (fun c h => f0of_else (l := [(i1, 901)]) h) (f1of [(i1, 901)]) rfl (r := [.int .i64 r118.1, .int .i64 ((gi cap1.rest 0).At), .bool true]) kr (fun χ' hM hC => ⟨(r118.1, (gi cap1.rest 0).At, true, (⟨cap1.rest.drop (1 : Int).toNat, wR (((gi cap1.rest 0).At) + (lN ((gi cap1.rest 0).Text))), cap1.e⟩ : Proof_line)), hm, a112, c113, rfl, h114.m0 hM, ((hS.cell (id := 901) (t := 96) (cs := [Sl a112 (cap1.rest.drop (1 : Int).toNat) c113, I (wR (((gi cap1.rest 0).At) + (lN ((gi cap1.rest 0).Text)))), I cap1.e]) kr).out (f := (f1of [(i1, 901)])) hC kr kr (hP.at 0 rfl))⟩)
theorem C73 (k75 : S75) (k87 : S87) (v : ∀ (lo : Int) (hi : Int) (cap1 : Proof_line), preNu lo hi cap1 → VC73 lo hi cap1 (fun r => r = proof_line_number lo hi cap1)) : S73 := by
 intro w χ lo hi cap1 a1 c1  b1 i1 hp h1 hc1 hA
 refine (W73 k75 k87 w χ lo hi cap1 a1 c1  b1 i1 _ (v lo hi cap1 hp) h1 hc1 hA).mono ?_
 rintro _ _ _ _ ⟨r, rfl, h⟩
 exact h
theorem W101 (w0 : World) (χ0 : Nat → Nat) (s_ : List Int) (v_ : Int) (a1 : Option Addr) (c1 : Nat) (Q : Int → Prop) (hm : VC101 s_ v_ Q) (h1 : RS tI w0 χ0 a1 s_ c1) :
  Ret Tryz.prog 101 #[.slice a1 s_.length c1, .int .i64 v_] xnone w0 χ0 (fun w χ' v => ∃ r, Q r ∧ v = .int .i64 r) := by
 unfold VC101 at hm
 replace hm := hm (h1.sm kr)
 refine enter Tryz.func101 rfl (vals := [.slice a1 s_.length c1, .int .i64 v_]) kr ?_
 intro ρ a hS hO hM
 replace h1 := h1.m0 hM
 clear hM
 refine rP T hS ⟨[(0, Sl a1 s_ c1), (1, I v_)], []⟩ fun a hS => ?_
 refine wcut (fun a w => ∃ (ρ : Nat → Nat) (χ : Nat → Nat), VC101_J1 Q ∧ St Tryz.f101.ntmps ⟨[], []⟩ ρ a w χ ∧ Old w0 χ0 w χ) ?_ ?_
 ·refine rP T hS ⟨[(0, Sl a1 s_ c1), (1, I v_), (7, I (lN s_)), (8, I 0)], []⟩ fun a hS => ?_
  refine wblock ?_
  obtain ⟨I1, μ1, hm0, hm⟩ := hm
  refine wloop (σ := Int) (fun s a w => ∃ (ρ : Nat → Nat) (χ : Nat → Nat), I1 s ∧ St Tryz.f101.ntmps ⟨[(0, Sl a1 s_ c1), (1, I v_), (7, I (lN s_)), (8, I s)], []⟩ ρ a w χ ∧ Old w0 χ0 w χ ∧ RS tI w χ a1 s_ c1) (fun s => μ1 s) (0) ?_ ?_
  ·exact ⟨ρ, _, hm0, hS.sl _, hO, h1⟩
  rintro x_102 a w107 ⟨ρ, χ106, hI, hS, hO, h101⟩
  replace hm := hm x_102 hI
  clear hI hm0
  refine rP T hS ⟨[(0, Sl a1 s_ c1), (1, I v_), (7, I (lN s_)), (8, I x_102), (9, B (decide (x_102 < (lN s_))))], []⟩ fun a hS => ?_
  refine wseq ?_
  refine wcond hS (b := decide (x_102 < (lN s_))) kr (fun hb => ?_) (fun hb => ?_)
  ·replace hm := hm.1 hb
   refine wskip (wseq ?_)
   refine wblock ?_
   refine rP T hS ⟨[(0, Sl a1 s_ c1), (1, I v_), (5, I x_102), (7, I (lN s_)), (8, I x_102)], []⟩ fun a hS => ?_
   refine regO ?_
   refine oP T hS 3 ⟨[(0, Sl a1 s_ c1), (1, I v_), (5, I x_102), (7, I (lN s_)), (8, I x_102), (11, I v_), (12, Sl a1 s_ c1), (13, I x_102)], []⟩ fun a hS => ?_
   obtain ⟨hq, hm⟩ := hm
   refine op1 (index (e := 3) (k := .i64) T hS kr kr kr kr h101 kr kr hq.1 hq.2 ?_)
   intro A103 a h104 hS
   refine op1 (load1 T hS kr kr kr h104 rfl kr ?_)
   intro v105 a hv hS
   cases hv
   refine eP T hS ⟨[(0, Sl a1 s_ c1), (1, I v_), (5, I x_102), (7, I (lN s_)), (8, I x_102), (16, B (v_ == (gi s_ x_102)))], []⟩ fun a hS => ?_
   refine wcond hS (b := (v_ == (gi s_ x_102))) kr (fun hb => ?_) (fun hb => ?_)
   ·replace hm := hm.1 hb
    refine rP T hS ⟨[(4, I x_102)], []⟩ fun a hS => ?_
    refine wret ?_
    exact fin T hS hO (fun c => c) rfl (r := [.int .i64 x_102]) kr (fun χ' hM hC => ⟨x_102, hm, rfl⟩)
   replace hm := hm.2 hb
   refine wskip ?_
   refine region (eP T hS ⟨[(0, Sl a1 s_ c1), (1, I v_), (7, I (lN s_)), (8, I (wR (x_102 + 1)))], []⟩ fun a hS => ?_)
   exact ⟨wR (x_102 + 1), ⟨ρ, _, hm.1, hS.sl _, hO, h101⟩, hm.2⟩
  replace hm := hm.2 hb
  refine wexit (by rfl) ?_
  exact ⟨ρ, _, hm, hS.sl _, hO⟩
 rintro a w109 ⟨ρ, χ108, hm, hS, hO⟩
 unfold VC101_J1 at hm
 refine rP T hS ⟨[(4, I (-1))], []⟩ fun a hS => ?_
 refine wret ?_
 exact fin T hS hO (fun c => c) rfl (r := [.int .i64 (-1)]) kr (fun χ' hM hC => ⟨(-1), hm, rfl⟩)
theorem C101 (v : ∀ (s_ : List Int) (v_ : Int), VC101 s_ v_ (fun r => r = slices_Index_int_int s_ v_)) : S101 := by
 intro w χ s_ v_ a1 c1   h1
 refine (W101 w χ s_ v_ a1 c1   _ (v s_ v_) h1).mono ?_
 rintro _ _ _ _ ⟨r, rfl, h⟩
 exact h
theorem W89 (k101 : S101) (w0 : World) (χ0 : Nat → Nat) (s_ : List Int) (v_ : Int) (a1 : Option Addr) (c1 : Nat) (Q : Bool → Prop) (hm : VC89 s_ v_ Q) (h1 : RS tI w0 χ0 a1 s_ c1) :
  Ret Tryz.prog 89 #[.slice a1 s_.length c1, .int .i64 v_] xnone w0 χ0 (fun w χ' v => ∃ r, Q r ∧ v = .bool r) := by
 unfold VC89 at hm
 replace hm := hm (h1.sm kr)
 refine enter Tryz.func89 rfl (vals := [.slice a1 s_.length c1, .int .i64 v_]) kr ?_
 intro ρ a hS hO hM
 replace h1 := h1.m0 hM
 clear hM
 refine rP T hS ⟨[(0, Sl a1 s_ c1), (1, I v_)], []⟩ fun a hS => ?_
 refine regO ?_
 refine oP T hS 2 ⟨[(5, Sl a1 s_ c1), (6, I v_)], []⟩ fun a hS => ?_
 refine op1 (call hS kr kr hb101 kr (fun _ _ => rfl) (k101 _ _ s_ v_ a1 c1 h1) ?_)
 intro v101 a w102 χ103 hE hp hS
 replace hO := hO.mv hE rfl rfl
 replace h1 := h1.mv hE rfl
 obtain ⟨r104, hr⟩ : ∃ r, slices_Index_int_int s_ v_ = r := ⟨_, rfl⟩
 replace hm := hm r104 hr
 rw [hr] at hp
 clear hr
 subst hp
 refine eP T hS ⟨[(4, B (decide (r104 ≥ 0)))], []⟩ fun a hS => ?_
 refine wret ?_
 exact fin T hS hO (fun c => c) rfl (r := [.bool (decide (r104 ≥ 0))]) kr (fun χ' hM hC => ⟨(decide (r104 ≥ 0)), hm, rfl⟩)
theorem C89 (k101 : S101) (v : ∀ (s_ : List Int) (v_ : Int), VC89 s_ v_ (fun r => r = slices_Contains_int_int s_ v_)) : S89 := by
 intro w χ s_ v_ a1 c1   h1
 refine (W89 k101 w χ s_ v_ a1 c1   _ (v s_ v_) h1).mono ?_
 rintro _ _ _ _ ⟨r, rfl, h⟩
 exact h
theorem W88 (k75 : S75) (k89 : S89) (w0 : World) (χ0 : Nat → Nat) (n_ : Int) (at_ : Int) (cap1 : List Int) (cap3 : Proof_line) (cap4 : Bool) (a1 : Option Addr) (c1 : Nat) (m1 : Nat) (a2 : Option Addr) (c2 : Nat) (b1 : Nat) (i1 : Nat) (b2 : Nat) (i2 : Nat) (b3 : Nat) (i3 : Nat) (b4 : Nat) (i4 : Nat) (Q : (List Int) × Proof_line → Prop) (hm : VC88 n_ at_ cap1 cap3 cap4 Q) (h1 : OS tI 3 w0 χ0 m1 a1 cap1 c1) (h2 : RS tToken_Token w0 χ0 a2 cap3.rest c2) (hc1 : Cell w0 χ0 b1 i1 50 [.slice a1 cap1.length c1]) (hc2 : Cell w0 χ0 b2 i2 94 [.pointer (some ⟨b3, 0, none⟩)]) (hc3 : Cell w0 χ0 b3 i3 96 [.slice a2 cap3.rest.length c2, .int .i64 cap3.at_, .int .i64 cap3.e]) (hc4 : Cell w0 χ0 b4 i4 4 [.bool cap4]) (hA : Apart [i1, i2, i3, i4, m1]) :
  Ret Tryz.prog 88 #[.int .i64 n_, .int .i64 at_, .pointer (some ⟨b1, 0, none⟩), .pointer (some ⟨b2, 0, none⟩), .pointer (some ⟨b4, 0, none⟩)] (pR [i1, i2, i3, i4, m1]) w0 χ0 (fun w χ' v => ∃ r, Q r ∧ ∃ (ra1 : Option Addr) (rc1 : Nat) (ra2 : Option Addr) (rc2 : Nat), v = .tuple #[] ∧ OS tI 3 w χ' m1 ra1 r.1 rc1 ∧ RS tToken_Token w χ' ra2 r.2.rest rc2 ∧ Cell w χ' b1 i1 50 [.slice ra1 r.1.length rc1] ∧ Cell w χ' b2 i2 94 [.pointer (some ⟨b3, 0, none⟩)] ∧ Cell w χ' b3 i3 96 [.slice ra2 r.2.rest.length rc2, .int .i64 r.2.at_, .int .i64 r.2.e] ∧ Cell w χ' b4 i4 4 [.bool cap4]) := by
 unfold VC88 at hm
 replace hm := hm (h1.sm kr)
 replace hm := hm (h2.sm kr)
 refine enterR Tryz.func88 rfl (f0of [(i1, 901), (i2, 902), (i3, 903), (i4, 904), (m1, 2001)]) (fun id => (bif Nat.beq id 901 then b1 else (bif Nat.beq id 902 then b2 else (bif Nat.beq id 903 then b3 else (bif Nat.beq id 904 then b4 else 0))))) (args := [I n_, I at_, Pt 901 0, Pt 902 0, Pt 904 0]) (bxs := [(901, (50, [Sl a1 cap1 c1])), (902, (94, [Pt 903 0])), (903, (96, [Sl a2 cap3.rest c2, I cap3.at_, I cap3.e])), (904, (4, [B cap4]))]) kr rfl (BoxesOK.cons kr (hc1.map (f0of_at 0 hA.1 rfl)) (BoxesOK.cons kr (hc2.map (f0of_at 1 hA.1 rfl)) (BoxesOK.cons kr (hc3.map (f0of_at 2 hA.1 rfl)) (BoxesOK.cons kr (hc4.map (f0of_at 3 hA.1 rfl)) BoxesOK.nil)))) (f0of_0 (fun q hq => (hA.2 q.1 (List.mem_map.2 ⟨q, hq, rfl⟩)).1)) ?_
 intro a hS hO hM
 have hP : Pin [(901, b1), (902, b2), (903, b3), (904, b4)] (fun id => (bif Nat.beq id 901 then b1 else (bif Nat.beq id 902 then b2 else (bif Nat.beq id 903 then b3 else (bif Nat.beq id 904 then b4 else 0))))) := by intro q hq; simp at hq; rcases hq with rfl | rfl | rfl | rfl <;> rfl
 generalize (fun id => (bif Nat.beq id 901 then b1 else (bif Nat.beq id 902 then b2 else (bif Nat.beq id 903 then b3 else (bif Nat.beq id 904 then b4 else 0))))) = ρ at hS hP
 clear hc1 hc2 hc3 hc4
 replace h1 := h1.map (f := f0of [(i1, 901), (i2, 902), (i3, 903), (i4, 904), (m1, 2001)]) (f0of_at 4 hA.1 rfl) hM
 replace h2 := h2.m0 hM
 clear hM
 refine wcut (fun a w => ∃ (ρ : Nat → Nat) (χ : Nat → Nat) (x_101 : List Int) (x_105 : List Token_Token) (x_109 : Int) (x_110 : Int) (a102 : Option Addr) (c103 : Nat) (a106 : Option Addr) (c107 : Nat), VC88_J1 n_ Q x_101 x_105 x_109 x_110 ∧ St Tryz.f88.ntmps ⟨[(0, I n_), (2, Pt 901 0)], [(901, (50, [Sl a102 x_101 c103])), (902, (94, [Pt 903 0])), (903, (96, [Sl a106 x_105 c107, I x_109, I x_110])), (904, (4, [B cap4]))]⟩ ρ a w χ ∧ OldR (f0of [(i1, 901), (i2, 902), (i3, 903), (i4, 904), (m1, 2001)]) w0 χ0 w χ ∧ Pin [(901, b1), (902, b2), (903, b3), (904, b4)] ρ ∧ OS tI 3 w χ 2001 a102 x_101 c103 ∧ RS tToken_Token w χ a106 x_105 c107) ?_ ?_
 ·refine wblock ?_
  refine rP T hS ⟨[(0, I n_), (1, I at_), (2, Pt 901 0), (3, Pt 902 0), (4, Pt 904 0), (7, B (decide ((lN cap1) ≥ 1000)))], [(901, (50, [Sl a1 cap1 c1])), (902, (94, [Pt 903 0])), (903, (96, [Sl a2 cap3.rest c2, I cap3.at_, I cap3.e])), (904, (4, [B cap4]))]⟩ fun a hS => ?_
  refine wcond hS (b := decide ((lN cap1) ≥ 1000)) kr (fun hb => ?_) (fun hb => ?_)
  ·replace hm := hm.1 hb
   refine region ?_
   refine oP T hS 2 ⟨[(0, I n_), (2, Pt 901 0), (11, Pt 903 0), (12, I at_)], [(901, (50, [Sl a1 cap1 c1])), (902, (94, [Pt 903 0])), (903, (96, [Sl a2 cap3.rest c2, I cap3.at_, I cap3.e])), (904, (4, [B cap4]))]⟩ fun a hS => ?_
   refine op1 (callR hS kr kr hb75 kr (k75 _ _ at_ 3 cap3 a2 c2 (ρ 903) 903 h2 (hS.cell (id := 903) (t := 96) (cs := [Sl a2 cap3.rest c2, I cap3.at_, I cap3.e]) kr) ⟨by decide, by decide⟩) ?_)
   intro v122 a w123 χ124 hE hp hS
   replace hO := hO.mv hE rfl rfl
   replace h1 := h1.mv hE rfl rfl
   replace h2 := h2.mv hE rfl
   obtain ⟨a126, c127, hp, h128, hc129⟩ := hp
   obtain ⟨r125, hr⟩ : ∃ r, proof_line_wrong at_ 3 cap3 = r := ⟨_, rfl⟩
   replace hm := hm r125 hr
   rw [hr] at h128 hc129
   clear hr
   subst hp
   replace hm := hm (h128.sm kr)
   replace hS := hS.addbox (id := 903) (t := 96) (cs := [Sl a126 r125.rest c127, I r125.at_, I r125.e]) kr hc129
   clear hc129
   refine doneK ?_
   exact ⟨ρ, _, cap1, r125.rest, r125.at_, r125.e, a1, c1, a126, c127, hm, hS.sl _, hO, hP, h1, h128⟩
  replace hm := hm.2 hb
  refine wcut (fun a w => ∃ (ρ : Nat → Nat) (χ : Nat → Nat) (x_130 : Bool) (x_131 : List Int) (a132 : Option Addr) (c133 : Nat), VC88_J2 n_ at_ cap3 Q x_130 x_131 ∧ St Tryz.f88.ntmps ⟨[(0, I n_), (1, I at_), (2, Pt 901 0), (3, Pt 902 0), (14, B x_130)], [(901, (50, [Sl a132 x_131 c133])), (902, (94, [Pt 903 0])), (903, (96, [Sl a2 cap3.rest c2, I cap3.at_, I cap3.e])), (904, (4, [B cap4]))]⟩ ρ a w χ ∧ OldR (f0of [(i1, 901), (i2, 902), (i3, 903), (i4, 904), (m1, 2001)]) w0 χ0 w χ ∧ Pin [(901, b1), (902, b2), (903, b3), (904, b4)] ρ ∧ OS tI 3 w χ 2001 a132 x_131 c133 ∧ RS tToken_Token w χ a2 cap3.rest c2) ?_ ?_
  ·refine region ?_
   refine oP T hS 2 ⟨[(0, I n_), (1, I at_), (2, Pt 901 0), (3, Pt 902 0), (16, B cap4)], [(901, (50, [Sl a1 cap1 c1])), (902, (94, [Pt 903 0])), (903, (96, [Sl a2 cap3.rest c2, I cap3.at_, I cap3.e])), (904, (4, [B cap4]))]⟩ fun a hS => ?_
   rcases Bool.eq_false_or_eq_true cap4 with hb | hb
   ·replace hS := hS.lit (t := 16) kr hb
    replace hm := hm.1 hb
    refine oP T hS 2 ⟨[(0, I n_), (1, I at_), (2, Pt 901 0), (3, Pt 902 0), (16, B true), (17, Sl a1 cap1 c1), (18, I n_)], [(901, (50, [Sl a1 cap1 c1])), (902, (94, [Pt 903 0])), (903, (96, [Sl a2 cap3.rest c2, I cap3.at_, I cap3.e])), (904, (4, [B cap4]))]⟩ fun a hS => ?_
    refine op1 (call hS kr kr hb89 kr (fun _ _ => rfl) (Ret.unlend (k89 _ (lend 2001 _) cap1 n_ a1 c1 h1.lend)) ?_)
    intro v144 a w145 χ146 hE hp hS
    replace hO := hO.mv hE rfl rfl
    replace h1 := h1.mv hE rfl rfl
    replace h2 := h2.mv hE rfl
    obtain ⟨_, hp⟩ := hp
    obtain ⟨r147, hr⟩ : ∃ r, slices_Contains_int_int cap1 n_ = r := ⟨_, rfl⟩
    replace hm := hm r147 hr
    rw [hr] at hp
    clear hr
    subst hp
    refine eP T hS ⟨[(0, I n_), (1, I at_), (2, Pt 901 0), (3, Pt 902 0), (14, B r147)], [(901, (50, [Sl a1 cap1 c1])), (902, (94, [Pt 903 0])), (903, (96, [Sl a2 cap3.rest c2, I cap3.at_, I cap3.e])), (904, (4, [B cap4]))]⟩ fun a hS => ?_
    exact ⟨ρ, _, r147, cap1, a1, c1, hm, hS.sl _, hO, hP, h1, h2⟩
   replace hS := hS.lit (t := 16) kr hb
   replace hm := hm.2 hb
   refine eP T hS ⟨[(0, I n_), (1, I at_), (2, Pt 901 0), (3, Pt 902 0), (14, B false)], [(901, (50, [Sl a1 cap1 c1])), (902, (94, [Pt 903 0])), (903, (96, [Sl a2 cap3.rest c2, I cap3.at_, I cap3.e])), (904, (4, [B cap4]))]⟩ fun a hS => ?_
   exact ⟨ρ, _, false, cap1, a1, c1, hm, hS.sl _, hO, hP, h1, h2⟩
  rintro a w149 ⟨ρ, χ148, x_130, x_131, a132, c133, hm, hS, hO, hP, h134, h135⟩
  unfold VC88_J2 at hm
  refine wcond hS (b := x_130) kr (fun hb => ?_) (fun hb => ?_)
  ·replace hm := hm.1 hb
   refine region ?_
   refine oP T hS 2 ⟨[(0, I n_), (2, Pt 901 0), (21, Pt 903 0), (22, I at_)], [(901, (50, [Sl a132 x_131 c133])), (902, (94, [Pt 903 0])), (903, (96, [Sl a2 cap3.rest c2, I cap3.at_, I cap3.e])), (904, (4, [B cap4]))]⟩ fun a hS => ?_
   refine op1 (callR hS kr kr hb75 kr (k75 _ _ at_ 21 (⟨cap3.rest, cap3.at_, cap3.e⟩ : Proof_line) a2 c2 (ρ 903) 903 h135 (hS.cell (id := 903) (t := 96) (cs := [Sl a2 cap3.rest c2, I cap3.at_, I cap3.e]) kr) ⟨by decide, by decide⟩) ?_)
   intro v136 a w137 χ138 hE hp hS
   replace hO := hO.mv hE rfl rfl
   replace h134 := h134.mv hE rfl rfl
   replace h135 := h135.mv hE rfl
   obtain ⟨a140, c141, hp, h142, hc143⟩ := hp
   obtain ⟨r139, hr⟩ : ∃ r, proof_line_wrong at_ 21 (⟨cap3.rest, cap3.at_, cap3.e⟩ : Proof_line) = r := ⟨_, rfl⟩
   replace hm := hm r139 hr
   rw [hr] at h142 hc143
   clear hr
   subst hp
   replace hm := hm (h142.sm kr)
   replace hS := hS.addbox (id := 903) (t := 96) (cs := [Sl a140 r139.rest c141, I r139.at_, I r139.e]) kr hc143
   clear hc143
   refine doneK ?_
   exact ⟨ρ, _, x_131, r139.rest, r139.at_, r139.e, a132, c133, a140, c141, hm, hS.sl _, hO, hP, h134, h142⟩
  replace hm := hm.2 hb
  refine wskip ?_
  exact ⟨ρ, _, x_131, cap3.rest, cap3.at_, cap3.e, a132, c133, a2, c2, hm, hS.sl _, hO, hP, h134, h135⟩
 rintro a w151 ⟨ρ, χ150, x_101, x_105, x_109, x_110, a102, c103, a106, c107, hm, hS, hO, hP, h104, h108⟩
 unfold VC88_J1 at hm
 refine region ?_
 refine oP T hS 2 ⟨[(2, Pt 901 0), (24, Sl a102 x_101 c103), (25, I n_)], [(901, (50, [Sl a102 x_101 c103])), (902, (94, [Pt 903 0])), (903, (96, [Sl a106 x_105 c107, I x_109, I x_110])), (904, (4, [B cap4]))]⟩ fun a hS => ?_
 refine op1 (lit (E := 3) (col := 0) (T := tI) (vals := [.int .i64 n_]) (ys := [n_]) T hS kr kr kr kr (by exact ⟨rfl, trivial⟩) rfl kr kr kr kr ?_)
 intro b111 a w112 χ113 hE h114 hN hS
 clear hN
 replace hO := hO.mv hE rfl rfl
 replace h104 := h104.mv hE rfl rfl
 replace h108 := h108.mv hE rfl
 replace h114 := h114.rs0
 obtain ⟨hq, hm⟩ := hm
 obtain ⟨news, hN⟩ := h114.src
 refine op1 (append (E := 3) (T := tI) (col := 2001) (xs := x_101) T hS kr kr kr kr h104 hN kr kr kr kr hq ?_)
 intro a118 c119 a w115 χ116 hE h117 hS
 clear hq hN
 clear h104
 replace hO := hO.mv hE rfl rfl
 replace h108 := h108.mv hE rfl
 replace h114 := h114.mv hE rfl
 refine eM T hS ⟨[], [(901, (50, [Sl a118 (x_101 ++ [n_]) c119])), (902, (94, [Pt 903 0])), (903, (96, [Sl a106 x_105 c107, I x_109, I x_110])), (904, (4, [B cap4]))]⟩ fun ρ a w120 χ121 hS hE hr => ?_
 replace hO := hO.mv hE rfl rfl
 replace h108 := h108.mv hE rfl
 replace h117 := h117.mv hE rfl rfl
 replace hP := hP.mv hr kr
 clear hE hr
 exact finR T hS hO (fun c h => f0of_zero kr h) (fun c h => f0of_else (l := [(i1, 901), (i2, 902), (i3, 903), (i4, 904), (m1, 2001)]) h) (f1of [(i1, 901), (i2, 902), (i3, 903), (i4, 904), (m1, 2001)]) rfl (r := []) kr (fun χ' hM hC => ⟨(x_101 ++ [n_], (⟨x_105, x_109, x_110⟩ : Proof_line)), hm, a118, c119, a106, c107, rfl, (OS.out (f := (f1of [(i1, 901), (i2, 902), (i3, 903), (i4, 904), (m1, 2001)])) h117 hM hC kr), h108.m0 hM, ((hS.cell (id := 901) (t := 50) (cs := [Sl a118 (x_101 ++ [n_]) c119]) kr).out (f := (f1of [(i1, 901), (i2, 902), (i3, 903), (i4, 904), (m1, 2001)])) hC kr kr (hP.at 0 rfl)), (Cell.ptr (id := 903) ((hS.cell (id := 902) (t := 94) (cs := [Pt 903 0]) kr).out (f := (f1of [(i1, 901), (i2, 902), (i3, 903), (i4, 904), (m1, 2001)])) hC kr kr (hP.at 1 rfl)) (hP.at 2 rfl)), ((hS.cell (id := 903) (t := 96) (cs := [Sl a106 x_105 c107, I x_109, I x_110]) kr).out (f := (f1of [(i1, 901), (i2, 902), (i3, 903), (i4, 904), (m1, 2001)])) hC kr kr (hP.at 2 rfl)), ((hS.cell (id := 904) (t := 4) (cs := [B cap4]) kr).out (f := (f1of [(i1, 901), (i2, 902), (i3, 903), (i4, 904), (m1, 2001)])) hC kr kr (hP.at 3 rfl))⟩)
theorem C88 (k75 : S75) (k89 : S89) (v : ∀ (n_ : Int) (at_ : Int) (cap1 : List Int) (cap3 : Proof_line) (cap4 : Bool), preRw1 n_ at_ cap1 cap3 cap4 → VC88 n_ at_ cap1 cap3 cap4 (fun r => r = proof_line_row_1 n_ at_ cap1 cap3 cap4)) : S88 := by
 intro w χ n_ at_ cap1 cap3 cap4 a1 c1 m1 a2 c2  b1 i1 b2 i2 b3 i3 b4 i4 hp h1 h2 hc1 hc2 hc3 hc4 hA
 refine (W88 k75 k89 w χ n_ at_ cap1 cap3 cap4 a1 c1 m1 a2 c2  b1 i1 b2 i2 b3 i3 b4 i4 _ (v n_ at_ cap1 cap3 cap4 hp) h1 h2 hc1 hc2 hc3 hc4 hA).mono ?_
 rintro _ _ _ _ ⟨r, rfl, h⟩
 exact h
theorem W74 (k73 : S73) (k88 : S88) (w0 : World) (χ0 : Nat → Nat) (lo : Int) (hi : Int) (twice : Bool) (cap1 : Proof_line) (a1 : Option Addr) (c1 : Nat) (b1 : Nat) (i1 : Nat) (Q : (List Int) × Proof_line → Prop) (hm : VC74 lo hi twice cap1 Q) (h1 : RS tToken_Token w0 χ0 a1 cap1.rest c1) (hc1 : Cell w0 χ0 b1 i1 96 [.slice a1 cap1.rest.length c1, .int .i64 cap1.at_, .int .i64 cap1.e]) (hA : Apart [i1]) :
  Ret Tryz.prog 74 #[.pointer (some ⟨b1, 0, none⟩), .int .i64 lo, .int .i64 hi, .bool twice] (pR [i1]) w0 χ0 (fun w χ' v => ∃ r, Q r ∧ ∃ (ra1 : Option Addr) (rc1 : Nat) (ra2 : Option Addr) (rc2 : Nat), v = .slice ra1 r.1.length rc1 ∧ RS tI w χ' ra1 r.1 rc1 ∧ RS tToken_Token w χ' ra2 r.2.rest rc2 ∧ Cell w χ' b1 i1 96 [.slice ra2 r.2.rest.length rc2, .int .i64 r.2.at_, .int .i64 r.2.e]) := by
 unfold VC74 at hm
 replace hm := hm (h1.sm kr)
 refine enterR Tryz.func74 rfl (f0of [(i1, 901)]) (fun id => (bif Nat.beq id 901 then b1 else 0)) (args := [Pt 901 0, I lo, I hi, B twice]) (bxs := [(901, (96, [Sl a1 cap1.rest c1, I cap1.at_, I cap1.e]))]) kr rfl (BoxesOK.cons kr (hc1.map (f0of_at 0 hA.1 rfl)) BoxesOK.nil) (f0of_0 (fun q hq => (hA.2 q.1 (List.mem_map.2 ⟨q, hq, rfl⟩)).1)) ?_
 intro a hS hO hM
 have hP : Pin [(901, b1)] (fun id => (bif Nat.beq id 901 then b1 else 0)) := by intro q hq; simp at hq; rcases hq with rfl <;> rfl
 generalize (fun id => (bif Nat.beq id 901 then b1 else 0)) = ρ at hS hP
 clear hc1
 replace h1 := h1.m0 hM
 clear hM
 refine rM T hS ⟨[(1, I lo), (2, I hi), (4, Pt 5 0), (7, Pt 8 0)], [(5, (94, [Pt 901 0])), (8, (4, [B twice])), (901, (96, [Sl a1 cap1.rest c1, I cap1.at_, I cap1.e]))]⟩ fun ρ a w139 χ140 hS hE hr => ?_
 replace hO := hO.mv hE rfl rfl
 replace h1 := h1.mv hE rfl
 replace hP := hP.mv hr kr
 clear hE hr
 refine rM T hS ⟨[(1, I lo), (2, I hi), (4, Pt 5 0), (7, Pt 8 0), (9, Pt 10 0)], [(5, (94, [Pt 901 0])), (8, (4, [B twice])), (10, (50, [V (.slice none 0 0)])), (901, (96, [Sl a1 cap1.rest c1, I cap1.at_, I cap1.e]))]⟩ fun ρ a w137 χ138 hS hE hr => ?_
 replace hO := hO.mv hE rfl rfl
 replace h1 := h1.mv hE rfl
 replace hP := hP.mv hr kr
 clear hE hr
 refine rP T hS ⟨[(1, I lo), (2, I hi), (4, Pt 5 0), (9, Pt 10 0), (10, .f (.func 88) [] [.p 10 0, .p 5 0, .p 8 0])], [(5, (94, [Pt 901 0])), (8, (4, [B twice])), (10, (50, [V (.slice none 0 0)])), (901, (96, [Sl a1 cap1.rest c1, I cap1.at_, I cap1.e]))]⟩ fun a hS => ?_
 refine wblock ?_
 obtain ⟨I1, μ1, hm0, hm⟩ := hm
 refine wloop (σ := (List Int) × (List Token_Token) × Int × Int) (fun s a w => ∃ (ρ : Nat → Nat) (χ : Nat → Nat) (a102 : Option Addr) (c103 : Nat) (a106 : Option Addr) (c107 : Nat), I1 s.1 s.2.1 s.2.2.1 s.2.2.2 ∧ St Tryz.f74.ntmps ⟨[(1, I lo), (2, I hi), (4, Pt 5 0), (9, Pt 10 0), (10, .f (.func 88) [] [.p 10 0, .p 5 0, .p 8 0])], [(5, (94, [Pt 901 0])), (8, (4, [B twice])), (10, (50, [Sl a102 s.1 c103])), (901, (96, [Sl a106 s.2.1 c107, I s.2.2.1, I s.2.2.2]))]⟩ ρ a w χ ∧ OldR (f0of [(i1, 901)]) w0 χ0 w χ ∧ Pin [(901, b1)] ρ ∧ OS tI 3 w χ 1009 a102 s.1 c103 ∧ RS tToken_Token w χ a106 s.2.1 c107) (fun s => μ1 s.1 s.2.1 s.2.2.1 s.2.2.2) (⟨[], cap1.rest, cap1.at_, cap1.e⟩) ?_ ?_
 ·exact ⟨ρ, _, none, 0, a1, c1, hm0, hS.sl _, hO, hP, (OS.nil _ _ _ _ _), h1⟩
 rintro ⟨x_101, x_105, x_109, x_110⟩ a w136 ⟨ρ, χ135, a102, c103, a106, c107, hI, hS, hO, hP, h104, h108⟩
 replace hm := hm x_101 x_105 x_109 x_110 hI
 clear hI hm0
 refine wblock ?_
 refine regO ?_
 refine oP T hS 3 ⟨[(1, I lo), (2, I hi), (4, Pt 5 0), (9, Pt 10 0), (10, .f (.func 88) [] [.p 10 0, .p 5 0, .p 8 0]), (16, Pt 901 0), (17, I lo), (18, I hi)], [(5, (94, [Pt 901 0])), (8, (4, [B twice])), (10, (50, [Sl a102 x_101 c103])), (901, (96, [Sl a106 x_105 c107, I x_109, I x_110]))]⟩ fun a hS => ?_
 obtain ⟨hq, hm⟩ := hm
 refine op1 (callR hS kr kr hb73 kr (k73 _ _ lo hi (⟨x_105, x_109, x_110⟩ : Proof_line) a106 c107 (ρ 901) 901 hq h108 (hS.cell (id := 901) (t := 96) (cs := [Sl a106 x_105 c107, I x_109, I x_110]) kr) ⟨by decide, by decide⟩) ?_)
 intro v111 a w112 χ113 hE hp hS
 replace hO := hO.mv hE rfl rfl
 replace h104 := h104.mv hE rfl rfl
 replace h108 := h108.mv hE rfl
 obtain ⟨a115, c116, hp, h117, hc118⟩ := hp
 obtain ⟨r114, hr⟩ : ∃ r, proof_line_number lo hi (⟨x_105, x_109, x_110⟩ : Proof_line) = r := ⟨_, rfl⟩
 replace hm := hm r114 hr
 rw [hr] at hp h117 hc118
 clear hr
 subst hp
 replace hm := hm (h117.sm kr)
 replace hS := hS.addbox (id := 901) (t := 96) (cs := [Sl a115 r114.2.2.2.rest c116, I r114.2.2.2.at_, I r114.2.2.2.e]) kr hc118
 clear hc118
 refine eP T hS ⟨[(1, I lo), (2, I hi), (4, Pt 5 0), (9, Pt 10 0), (10, .f (.func 88) [] [.p 10 0, .p 5 0, .p 8 0]), (11, I r114.1), (12, I r114.2.1), (13, B r114.2.2.1)], [(5, (94, [Pt 901 0])), (8, (4, [B twice])), (10, (50, [Sl a102 x_101 c103])), (901, (96, [Sl a115 r114.2.2.2.rest c116, I r114.2.2.2.at_, I r114.2.2.2.e]))]⟩ fun a hS => ?_
 refine wseq ?_
 refine rP T hS ⟨[(1, I lo), (2, I hi), (4, Pt 5 0), (9, Pt 10 0), (10, .f (.func 88) [] [.p 10 0, .p 5 0, .p 8 0]), (11, I r114.1), (12, I r114.2.1), (28, B ((!r114.2.2.1) || (r114.1 == 0)))], [(5, (94, [Pt 901 0])), (8, (4, [B twice])), (10, (50, [Sl a102 x_101 c103])), (901, (96, [Sl a115 r114.2.2.2.rest c116, I r114.2.2.2.at_, I r114.2.2.2.e]))]⟩ (sp := [25]) fun a hS => ?_
 refine wcond hS (b := ((!r114.2.2.1) || (r114.1 == 0))) kr (fun hb => ?_) (fun hb => ?_)
 ·replace hm := hm.1 hb
  refine rP T hS ⟨[(8, Sl a102 x_101 c103)], [(901, (96, [Sl a115 r114.2.2.2.rest c116, I r114.2.2.2.at_, I r114.2.2.2.e]))]⟩ fun a hS => ?_
  refine wret ?_
  obtain ⟨χ119, hE, hF⟩ := h104.freeze (by decide)
  replace hS := hS.ev hE (xone_box kr)
  replace hO := hO.mv hE rfl rfl
  replace h117 := h117.mv hE rfl
  have h120 := hF; clear hE hF
  exact finR T hS hO (fun c h => f0of_zero kr h) (fun c h => f0of_else (l := [(i1, 901)]) h) (f1of [(i1, 901)]) rfl (r := [.slice a102 x_101.length c103]) kr (fun χ' hM hC => ⟨(x_101, r114.2.2.2), hm, a102, c103, a115, c116, rfl, h120.m0 hM, h117.m0 hM, ((hS.cell (id := 901) (t := 96) (cs := [Sl a115 r114.2.2.2.rest c116, I r114.2.2.2.at_, I r114.2.2.2.e]) kr).out (f := (f1of [(i1, 901)])) hC kr kr (hP.at 0 rfl))⟩)
 replace hm := hm.2 hb
 refine wskip ?_
 refine region ?_
 refine oP T hS 3 ⟨[(1, I lo), (2, I hi), (4, Pt 5 0), (9, Pt 10 0), (10, .f (.func 88) [] [.p 10 0, .p 5 0, .p 8 0]), (30, .f (.func 88) [] [.p 10 0, .p 5 0, .p 8 0]), (31, I r114.1), (32, I r114.2.1)], [(5, (94, [Pt 901 0])), (8, (4, [B twice])), (10, (50, [Sl a102 x_101 c103])), (901, (96, [Sl a115 r114.2.2.2.rest c116, I r114.2.2.2.at_, I r114.2.2.2.e]))]⟩ fun a hS => ?_
 obtain ⟨hq, hm⟩ := hm
 refine op1 (callCR (fi := []) (cp := [.p 10 0, .p 5 0, .p 8 0]) hS kr kr hb88 kr kr (k88 _ _ r114.1 r114.2.1 x_101 r114.2.2.2 twice a102 c103 1009 a115 c116 (ρ 10) 10 (ρ 5) 5 (ρ 901) 901 (ρ 8) 8 hq h104 h117 (hS.cell (id := 10) (t := 50) (cs := [Sl a102 x_101 c103]) kr) (hS.cell (id := 5) (t := 94) (cs := [Pt 901 0]) kr) (hS.cell (id := 901) (t := 96) (cs := [Sl a115 r114.2.2.2.rest c116, I r114.2.2.2.at_, I r114.2.2.2.e]) kr) (hS.cell (id := 8) (t := 4) (cs := [B twice]) kr) ⟨by decide, by decide⟩) ?_)
 intro v121 a w122 χ123 hE hp hS
 clear h104
 replace hO := hO.mv hE rfl rfl
 replace h117 := h117.mv hE rfl
 obtain ⟨a125, c126, a128, c129, hp, h127, h130, hc131, hc132, hc133, hc134⟩ := hp
 obtain ⟨r124, hr⟩ : ∃ r, proof_line_row_1 r114.1 r114.2.1 x_101 r114.2.2.2 twice = r := ⟨_, rfl⟩
 replace hm := hm r124 hr
 rw [hr] at h127 h130 hc131 hc133
 clear hr
 subst hp
 replace hm := hm (h127.sm kr)
 replace hm := hm (h130.sm kr)
 replace hS := hS.addbox (id := 10) (t := 50) (cs := [Sl a125 r124.1 c126]) kr hc131
 replace hS := hS.addbox (id := 5) (t := 94) (cs := [Pt 901 0]) kr hc132
 replace hS := hS.addbox (id := 901) (t := 96) (cs := [Sl a128 r124.2.rest c129, I r124.2.at_, I r124.2.e]) kr hc133
 replace hS := hS.addbox (id := 8) (t := 4) (cs := [B twice]) kr hc134
 clear hc131 hc132 hc133 hc134
 refine doneK ?_
 exact ⟨⟨r124.1, r124.2.rest, r124.2.at_, r124.2.e⟩, ⟨ρ, _, a125, c126, a128, c129, hm.1, hS.sl _, hO, hP, h127, h130⟩, hm.2⟩
theorem C74 (k73 : S73) (k88 : S88) (v : ∀ (lo : Int) (hi : Int) (twice : Bool) (cap1 : Proof_line), preRow lo hi twice cap1 → VC74 lo hi twice cap1 (fun r => r = proof_line_row lo hi twice cap1)) : S74 := by
 intro w χ lo hi twice cap1 a1 c1  b1 i1 hp h1 hc1 hA
 refine (W74 k73 k88 w χ lo hi twice cap1 a1 c1  b1 i1 _ (v lo hi twice cap1 hp) h1 hc1 hA).mono ?_
 rintro _ _ _ _ ⟨r, rfl, h⟩
 exact h
theorem W50 (k73 : S73) (k74 : S74) (k75 : S75) (w0 : World) (χ0 : Nat → Nat) (cap1 : Proof_line) (a1 : Option Addr) (c1 : Nat) (b1 : Nat) (i1 : Nat) (Q : Api_Step × Proof_line → Prop) (hm : VC50 cap1 Q) (h1 : RS tToken_Token w0 χ0 a1 cap1.rest c1) (hc1 : Cell w0 χ0 b1 i1 96 [.slice a1 cap1.rest.length c1, .int .i64 cap1.at_, .int .i64 cap1.e]) (hA : Apart [i1]) :
  Ret Tryz.prog 50 #[.pointer (some ⟨b1, 0, none⟩)] (pR [i1]) w0 χ0 (fun w χ' v => ∃ r, Q r ∧ ∃ (ra1 : Option Addr) (rc1 : Nat) (ra2 : Option Addr) (rc2 : Nat) (ra3 : Option Addr) (rc3 : Nat), v = .agg #[.int .i64 r.1.Kind, .int .i64 r.1.Id, .slice ra1 r.1.Lits.length rc1, .slice ra2 r.1.Hints.length rc2] ∧ RS tI w χ' ra1 r.1.Lits rc1 ∧ RS tI w χ' ra2 r.1.Hints rc2 ∧ RS tToken_Token w χ' ra3 r.2.rest rc3 ∧ Cell w χ' b1 i1 96 [.slice ra3 r.2.rest.length rc3, .int .i64 r.2.at_, .int .i64 r.2.e]) := by
 unfold VC50 at hm
 replace hm := hm (h1.sm kr)
 refine enterR Tryz.func50 rfl (f0of [(i1, 901)]) (fun id => (bif Nat.beq id 901 then b1 else 0)) (args := [Pt 901 0]) (bxs := [(901, (96, [Sl a1 cap1.rest c1, I cap1.at_, I cap1.e]))]) kr rfl (BoxesOK.cons kr (hc1.map (f0of_at 0 hA.1 rfl)) BoxesOK.nil) (f0of_0 (fun q hq => (hA.2 q.1 (List.mem_map.2 ⟨q, hq, rfl⟩)).1)) ?_
 intro a hS hO hM
 have hP : Pin [(901, b1)] (fun id => (bif Nat.beq id 901 then b1 else 0)) := by intro q hq; simp at hq; rcases hq with rfl <;> rfl
 generalize (fun id => (bif Nat.beq id 901 then b1 else 0)) = ρ at hS hP
 clear hc1
 replace h1 := h1.m0 hM
 clear hM
 refine rM T hS ⟨[(0, Pt 901 0), (2, Pt 3 0)], [(3, (98, [I 0, I 0, V (.slice none 0 0), V (.slice none 0 0)])), (901, (96, [Sl a1 cap1.rest c1, I cap1.at_, I cap1.e]))]⟩ fun ρ a w230 χ231 hS hE hr => ?_
 replace hO := hO.mv hE rfl rfl
 replace h1 := h1.mv hE rfl
 replace hP := hP.mv hr kr
 clear hE hr
 refine regO ?_
 refine oP T hS 4 ⟨[(0, Pt 901 0), (2, Pt 3 0), (8, Sl a1 cap1.rest c1)], [(3, (98, [I 0, I 0, V (.slice none 0 0), V (.slice none 0 0)])), (901, (96, [Sl a1 cap1.rest c1, I cap1.at_, I cap1.e]))]⟩ fun a hS => ?_
 obtain ⟨hq, hm⟩ := hm
 refine op1 (index (e := 60) (k := .i64) T hS kr kr kr kr h1 kr kr hq.1 hq.2 ?_)
 intro A101 a h102 hS
 refine op1 (fieldA (off := 1) (fsz := 1) (ft := 3) (TF := tI) (y := (gi cap1.rest 0).At) T hS kr kr kr h102 kr kr kr (fun cs h => Token_Token_f1 h) ?_)
 intro A103 a h104 hS
 refine op1 (load1 T hS kr kr kr h104 rfl kr ?_)
 intro v105 a hv hS
 cases hv
 refine eP T hS ⟨[(0, Pt 901 0), (2, Pt 3 0), (3, I ((gi cap1.rest 0).At))], [(3, (98, [I 0, I 0, V (.slice none 0 0), V (.slice none 0 0)])), (901, (96, [Sl a1 cap1.rest c1, I cap1.at_, I cap1.e]))]⟩ fun a hS => ?_
 refine rM T hS ⟨[(0, Pt 901 0), (2, Pt 3 0), (3, I ((gi cap1.rest 0).At)), (4, Pt 5 0)], [(3, (98, [I 0, I 0, V (.slice none 0 0), V (.slice none 0 0)])), (5, (98, [I 1, I 0, V (.slice none 0 0), V (.slice none 0 0)])), (901, (96, [Sl a1 cap1.rest c1, I cap1.at_, I cap1.e]))]⟩ fun ρ a w228 χ229 hS hE hr => ?_
 replace hO := hO.mv hE rfl rfl
 replace h1 := h1.mv hE rfl
 replace hP := hP.mv hr kr
 clear hE hr
 refine regO ?_
 refine oP T hS 1 ⟨[(0, Pt 901 0), (2, Pt 3 0), (3, I ((gi cap1.rest 0).At)), (4, Pt 5 0), (14, Pt 901 0)], [(3, (98, [I 0, I 0, V (.slice none 0 0), V (.slice none 0 0)])), (5, (98, [I 1, I 0, V (.slice none 0 0), V (.slice none 0 0)])), (901, (96, [Sl a1 cap1.rest c1, I cap1.at_, I cap1.e]))]⟩ fun a hS => ?_
 obtain ⟨hq, hm⟩ := hm
 refine op1 (callR hS kr kr hb73 kr (k73 _ _ 0 10000000 cap1 a1 c1 (ρ 901) 901 hq h1 (hS.cell (id := 901) (t := 96) (cs := [Sl a1 cap1.rest c1, I cap1.at_, I cap1.e]) kr) ⟨by decide, by decide⟩) ?_)
 intro v106 a w107 χ108 hE hp hS
 replace hO := hO.mv hE rfl rfl
 replace h1 := h1.mv hE rfl
 obtain ⟨a110, c111, hp, h112, hc113⟩ := hp
 obtain ⟨r109, hr⟩ : ∃ r, proof_line_number 0 10000000 cap1 = r := ⟨_, rfl⟩
 replace hm := hm r109 hr
 rw [hr] at hp h112 hc113
 clear hr
 subst hp
 replace hm := hm (h112.sm kr)
 replace hS := hS.addbox (id := 901) (t := 96) (cs := [Sl a110 r109.2.2.2.rest c111, I r109.2.2.2.at_, I r109.2.2.2.e]) kr hc113
 clear hc113
 refine eM T hS ⟨[(0, Pt 901 0), (2, Pt 3 0), (3, I ((gi cap1.rest 0).At)), (4, Pt 5 0)], [(3, (98, [I 0, I 0, V (.slice none 0 0), V (.slice none 0 0)])), (5, (98, [I 1, I r109.1, V (.slice none 0 0), V (.slice none 0 0)])), (901, (96, [Sl a110 r109.2.2.2.rest c111, I r109.2.2.2.at_, I r109.2.2.2.e]))]⟩ fun ρ a w226 χ227 hS hE hr => ?_
 replace hO := hO.mv hE rfl rfl
 replace h112 := h112.mv hE rfl
 replace hP := hP.mv hr kr
 clear hE hr
 refine wcut (fun a w => ∃ (ρ : Nat → Nat) (χ : Nat → Nat) (x_114 : Int) (x_115 : List Int) (x_119 : List Int) (x_123 : List Token_Token) (x_127 : Int) (x_128 : Int) (a116 : Option Addr) (c117 : Nat) (a120 : Option Addr) (c121 : Nat) (a124 : Option Addr) (c125 : Nat), VC50_J1 Q r109 x_114 x_115 x_119 x_123 x_127 x_128 ∧ St Tryz.f50.ntmps ⟨[(0, Pt 901 0), (2, Pt 3 0), (4, Pt 5 0)], [(3, (98, [I 0, I 0, V (.slice none 0 0), V (.slice none 0 0)])), (5, (98, [I x_114, I r109.1, Sl a116 x_115 c117, Sl a120 x_119 c121])), (901, (96, [Sl a124 x_123 c125, I x_127, I x_128]))]⟩ ρ a w χ ∧ OldR (f0of [(i1, 901)]) w0 χ0 w χ ∧ Pin [(901, b1)] ρ ∧ RS tI w χ a116 x_115 c117 ∧ RS tI w χ a120 x_119 c121 ∧ RS tToken_Token w χ a124 x_123 c125) ?_ ?_
 ·refine wcut (fun a w => ∃ (ρ : Nat → Nat) (χ : Nat → Nat) (x_154 : Bool), VC50_J3 cap1 Q r109 x_154 ∧ St Tryz.f50.ntmps ⟨[(0, Pt 901 0), (2, Pt 3 0), (3, I ((gi cap1.rest 0).At)), (4, Pt 5 0), (42, B x_154)], [(3, (98, [I 0, I 0, V (.slice none 0 0), V (.slice none 0 0)])), (5, (98, [I 1, I r109.1, V (.slice none 0 0), V (.slice none 0 0)])), (901, (96, [Sl a110 r109.2.2.2.rest c111, I r109.2.2.2.at_, I r109.2.2.2.e]))]⟩ ρ a w χ ∧ OldR (f0of [(i1, 901)]) w0 χ0 w χ ∧ Pin [(901, b1)] ρ ∧ RS tToken_Token w χ a110 r109.2.2.2.rest c111) ?_ ?_
  ·refine region ?_
   refine oP T hS 14 ⟨[(0, Pt 901 0), (2, Pt 3 0), (3, I ((gi cap1.rest 0).At)), (4, Pt 5 0), (33, B ((r109.2.2.2.e == 0) && (decide ((lN r109.2.2.2.rest) > 0))))], [(3, (98, [I 0, I 0, V (.slice none 0 0), V (.slice none 0 0)])), (5, (98, [I 1, I r109.1, V (.slice none 0 0), V (.slice none 0 0)])), (901, (96, [Sl a110 r109.2.2.2.rest c111, I r109.2.2.2.at_, I r109.2.2.2.e]))]⟩ (sp := [25]) fun a hS => ?_
   rcases Bool.eq_false_or_eq_true ((r109.2.2.2.e == 0) && (decide ((lN r109.2.2.2.rest) > 0))) with hb | hb
   ·replace hS := hS.lit (t := 33) kr hb
    replace hm := hm.1 hb
    refine oP T hS 4 ⟨[(0, Pt 901 0), (2, Pt 3 0), (3, I ((gi cap1.rest 0).At)), (4, Pt 5 0), (33, B true), (37, Sl a110 r109.2.2.2.rest c111)], [(3, (98, [I 0, I 0, V (.slice none 0 0), V (.slice none 0 0)])), (5, (98, [I 1, I r109.1, V (.slice none 0 0), V (.slice none 0 0)])), (901, (96, [Sl a110 r109.2.2.2.rest c111, I r109.2.2.2.at_, I r109.2.2.2.e]))]⟩ fun a hS => ?_
    obtain ⟨hq, hm⟩ := hm
    refine op1 (index (e := 60) (k := .i64) T hS kr kr kr kr h112 kr kr hq.1 hq.2 ?_)
    intro A217 a h218 hS
    refine op1 (fieldA (off := 2) (fsz := 1) (ft := 9) (TF := tStr) (y := (gi r109.2.2.2.rest 0).Text) T hS kr kr kr h218 kr kr kr (fun cs h => Token_Token_f2 h) ?_)
    intro A219 a h220 hS
    refine op1 (load1 T hS kr kr kr h220 rfl kr ?_)
    intro v221 a hv hS
    cases hv
    refine eP T hS ⟨[(0, Pt 901 0), (2, Pt 3 0), (3, I ((gi cap1.rest 0).At)), (4, Pt 5 0), (42, B (((gi r109.2.2.2.rest 0).Text) == ([100] : List UInt8)))], [(3, (98, [I 0, I 0, V (.slice none 0 0), V (.slice none 0 0)])), (5, (98, [I 1, I r109.1, V (.slice none 0 0), V (.slice none 0 0)])), (901, (96, [Sl a110 r109.2.2.2.rest c111, I r109.2.2.2.at_, I r109.2.2.2.e]))]⟩ fun a hS => ?_
    exact ⟨ρ, _, (((gi r109.2.2.2.rest 0).Text) == ([100] : List UInt8)), hm, hS.sl _, hO, hP, h112⟩
   replace hS := hS.lit (t := 33) kr hb
   replace hm := hm.2 hb
   refine eP T hS ⟨[(0, Pt 901 0), (2, Pt 3 0), (3, I ((gi cap1.rest 0).At)), (4, Pt 5 0), (42, B false)], [(3, (98, [I 0, I 0, V (.slice none 0 0), V (.slice none 0 0)])), (5, (98, [I 1, I r109.1, V (.slice none 0 0), V (.slice none 0 0)])), (901, (96, [Sl a110 r109.2.2.2.rest c111, I r109.2.2.2.at_, I r109.2.2.2.e]))]⟩ fun a hS => ?_
   exact ⟨ρ, _, false, hm, hS.sl _, hO, hP, h112⟩
  rintro a w223 ⟨ρ, χ222, x_154, hm, hS, hO, hP, h155⟩
  unfold VC50_J3 at hm
  refine wcond hS (b := x_154) kr (fun hb => ?_) (fun hb => ?_)
  ·replace hm := hm.1 hb
   refine rM T hS ⟨[(0, Pt 901 0), (2, Pt 3 0), (4, Pt 5 0)], [(3, (98, [I 0, I 0, V (.slice none 0 0), V (.slice none 0 0)])), (5, (98, [I 2, I r109.1, V (.slice none 0 0), V (.slice none 0 0)])), (901, (96, [Sl a110 r109.2.2.2.rest c111, I r109.2.2.2.at_, I r109.2.2.2.e]))]⟩ fun ρ a w181 χ182 hS hE hr => ?_
   replace hO := hO.mv hE rfl rfl
   replace h155 := h155.mv hE rfl
   replace hP := hP.mv hr kr
   clear hE hr
   refine regO ?_
   refine oP T hS 5 ⟨[(0, Pt 901 0), (2, Pt 3 0), (4, Pt 5 0), (44, Pt 901 0), (48, Sl a110 r109.2.2.2.rest c111)], [(3, (98, [I 0, I 0, V (.slice none 0 0), V (.slice none 0 0)])), (5, (98, [I 2, I r109.1, V (.slice none 0 0), V (.slice none 0 0)])), (901, (96, [Sl a110 r109.2.2.2.rest c111, I r109.2.2.2.at_, I r109.2.2.2.e]))]⟩ fun a hS => ?_
   obtain ⟨hq, hm⟩ := hm
   refine op1 (index (e := 60) (k := .i64) T hS kr kr kr kr h155 kr kr hq.1 hq.2 ?_)
   intro A156 a h157 hS
   refine op1 (fieldA (off := 1) (fsz := 1) (ft := 3) (TF := tI) (y := (gi r109.2.2.2.rest 0).At) T hS kr kr kr h157 kr kr kr (fun cs h => Token_Token_f1 h) ?_)
   intro A158 a h159 hS
   refine op1 (load1 T hS kr kr kr h159 rfl kr ?_)
   intro v160 a hv hS
   cases hv
   refine eM T hS ⟨[(0, Pt 901 0), (2, Pt 3 0), (4, Pt 5 0)], [(3, (98, [I 0, I 0, V (.slice none 0 0), V (.slice none 0 0)])), (5, (98, [I 2, I r109.1, V (.slice none 0 0), V (.slice none 0 0)])), (901, (96, [Sl a110 r109.2.2.2.rest c111, I (wR (((gi r109.2.2.2.rest 0).At) + 1)), I r109.2.2.2.e]))]⟩ fun ρ a w179 χ180 hS hE hr => ?_
   replace hO := hO.mv hE rfl rfl
   replace h155 := h155.mv hE rfl
   replace hP := hP.mv hr kr
   clear hE hr
   refine regO ?_
   refine oP T hS 5 ⟨[(0, Pt 901 0), (2, Pt 3 0), (4, Pt 5 0), (55, Pt 901 0), (59, Sl a110 r109.2.2.2.rest c111)], [(3, (98, [I 0, I 0, V (.slice none 0 0), V (.slice none 0 0)])), (5, (98, [I 2, I r109.1, V (.slice none 0 0), V (.slice none 0 0)])), (901, (96, [Sl a110 r109.2.2.2.rest c111, I (wR (((gi r109.2.2.2.rest 0).At) + 1)), I r109.2.2.2.e]))]⟩ fun a hS => ?_
   obtain ⟨hq, hm⟩ := hm
   refine op1 (slice1 (E := 60) (kl := .i64) T hS kr kr kr kr h155 kr kr hq.1 hq.2 ?_)
   intro a161 c162 a h163 hS
   refine eM T hS ⟨[(0, Pt 901 0), (2, Pt 3 0), (4, Pt 5 0)], [(3, (98, [I 0, I 0, V (.slice none 0 0), V (.slice none 0 0)])), (5, (98, [I 2, I r109.1, V (.slice none 0 0), V (.slice none 0 0)])), (901, (96, [Sl a161 (r109.2.2.2.rest.drop (1 : Int).toNat) c162, I (wR (((gi r109.2.2.2.rest 0).At) + 1)), I r109.2.2.2.e]))]⟩ fun ρ a w177 χ178 hS hE hr => ?_
   replace hO := hO.mv hE rfl rfl
   replace h163 := h163.mv hE rfl
   replace hP := hP.mv hr kr
   clear hE hr
   refine region ?_
   refine oP T hS 1 ⟨[(0, Pt 901 0), (2, Pt 3 0), (4, Pt 5 0), (63, Pt 901 0)], [(3, (98, [I 0, I 0, V (.slice none 0 0), V (.slice none 0 0)])), (5, (98, [I 2, I r109.1, V (.slice none 0 0), V (.slice none 0 0)])), (901, (96, [Sl a161 (r109.2.2.2.rest.drop (1 : Int).toNat) c162, I (wR (((gi r109.2.2.2.rest 0).At) + 1)), I r109.2.2.2.e]))]⟩ fun a hS => ?_
   obtain ⟨hq, hm⟩ := hm
   refine op1 (callR hS kr kr hb74 kr (k74 _ _ 0 10000000 false (⟨r109.2.2.2.rest.drop (1 : Int).toNat, wR (((gi r109.2.2.2.rest 0).At) + 1), r109.2.2.2.e⟩ : Proof_line) a161 c162 (ρ 901) 901 hq h163 (hS.cell (id := 901) (t := 96) (cs := [Sl a161 (r109.2.2.2.rest.drop (1 : Int).toNat) c162, I (wR (((gi r109.2.2.2.rest 0).At) + 1)), I r109.2.2.2.e]) kr) ⟨by decide, by decide⟩) ?_)
   intro v164 a w165 χ166 hE hp hS
   replace hO := hO.mv hE rfl rfl
   replace h163 := h163.mv hE rfl
   obtain ⟨a168, c169, a171, c172, hp, h170, h173, hc174⟩ := hp
   obtain ⟨r167, hr⟩ : ∃ r, proof_line_row 0 10000000 false (⟨r109.2.2.2.rest.drop (1 : Int).toNat, wR (((gi r109.2.2.2.rest 0).At) + 1), r109.2.2.2.e⟩ : Proof_line) = r := ⟨_, rfl⟩
   replace hm := hm r167 hr
   rw [hr] at hp h170 h173 hc174
   clear hr
   subst hp
   replace hm := hm (h170.sm kr)
   replace hm := hm (h173.sm kr)
   replace hS := hS.addbox (id := 901) (t := 96) (cs := [Sl a171 r167.2.rest c172, I r167.2.at_, I r167.2.e]) kr hc174
   clear hc174
   refine eM T hS ⟨[(0, Pt 901 0), (2, Pt 3 0), (4, Pt 5 0)], [(3, (98, [I 0, I 0, V (.slice none 0 0), V (.slice none 0 0)])), (5, (98, [I 2, I r109.1, V (.slice none 0 0), Sl a168 r167.1 c169])), (901, (96, [Sl a171 r167.2.rest c172, I r167.2.at_, I r167.2.e]))]⟩ fun ρ a w175 χ176 hS hE hr => ?_
   replace hO := hO.mv hE rfl rfl
   replace h170 := h170.mv hE rfl
   replace h173 := h173.mv hE rfl
   replace hP := hP.mv hr kr
   clear hE hr
   exact ⟨ρ, _, 2, [], r167.1, r167.2.rest, r167.2.at_, r167.2.e, none, 0, a168, c169, a171, c172, hm, hS.sl _, hO, hP, (RS.empty _ _ _), h170, h173⟩
  replace hm := hm.2 hb
  refine regO ?_
  refine oP T hS 1 ⟨[(0, Pt 901 0), (2, Pt 3 0), (3, I ((gi cap1.rest 0).At)), (4, Pt 5 0), (66, Pt 901 0)], [(3, (98, [I 0, I 0, V (.slice none 0 0), V (.slice none 0 0)])), (5, (98, [I 1, I r109.1, V (.slice none 0 0), V (.slice none 0 0)])), (901, (96, [Sl a110 r109.2.2.2.rest c111, I r109.2.2.2.at_, I r109.2.2.2.e]))]⟩ fun a hS => ?_
  obtain ⟨hq, hm⟩ := hm
  refine op1 (callR hS kr kr hb74 kr (k74 _ _ (-100000) 100000 true (⟨r109.2.2.2.rest, r109.2.2.2.at_, r109.2.2.2.e⟩ : Proof_line) a110 c111 (ρ 901) 901 hq h155 (hS.cell (id := 901) (t := 96) (cs := [Sl a110 r109.2.2.2.rest c111, I r109.2.2.2.at_, I r109.2.2.2.e]) kr) ⟨by decide, by decide⟩) ?_)
  intro v183 a w184 χ185 hE hp hS
  replace hO := hO.mv hE rfl rfl
  replace h155 := h155.mv hE rfl
  obtain ⟨a187, c188, a190, c191, hp, h189, h192, hc193⟩ := hp
  obtain ⟨r186, hr⟩ : ∃ r, proof_line_row (-100000) 100000 true (⟨r109.2.2.2.rest, r109.2.2.2.at_, r109.2.2.2.e⟩ : Proof_line) = r := ⟨_, rfl⟩
  replace hm := hm r186 hr
  rw [hr] at hp h189 h192 hc193
  clear hr
  subst hp
  replace hm := hm (h189.sm kr)
  replace hm := hm (h192.sm kr)
  replace hS := hS.addbox (id := 901) (t := 96) (cs := [Sl a190 r186.2.rest c191, I r186.2.at_, I r186.2.e]) kr hc193
  clear hc193
  refine eM T hS ⟨[(0, Pt 901 0), (2, Pt 3 0), (3, I ((gi cap1.rest 0).At)), (4, Pt 5 0)], [(3, (98, [I 0, I 0, V (.slice none 0 0), V (.slice none 0 0)])), (5, (98, [I 1, I r109.1, Sl a187 r186.1 c188, V (.slice none 0 0)])), (901, (96, [Sl a190 r186.2.rest c191, I r186.2.at_, I r186.2.e]))]⟩ fun ρ a w215 χ216 hS hE hr => ?_
  replace hO := hO.mv hE rfl rfl
  replace h189 := h189.mv hE rfl
  replace h192 := h192.mv hE rfl
  replace hP := hP.mv hr kr
  clear hE hr
  refine regO ?_
  refine oP T hS 1 ⟨[(0, Pt 901 0), (2, Pt 3 0), (3, I ((gi cap1.rest 0).At)), (4, Pt 5 0), (69, Pt 901 0)], [(3, (98, [I 0, I 0, V (.slice none 0 0), V (.slice none 0 0)])), (5, (98, [I 1, I r109.1, Sl a187 r186.1 c188, V (.slice none 0 0)])), (901, (96, [Sl a190 r186.2.rest c191, I r186.2.at_, I r186.2.e]))]⟩ fun a hS => ?_
  obtain ⟨hq, hm⟩ := hm
  refine op1 (callR hS kr kr hb74 kr (k74 _ _ (-10000000) 10000000 false r186.2 a190 c191 (ρ 901) 901 hq h192 (hS.cell (id := 901) (t := 96) (cs := [Sl a190 r186.2.rest c191, I r186.2.at_, I r186.2.e]) kr) ⟨by decide, by decide⟩) ?_)
  intro v194 a w195 χ196 hE hp hS
  replace hO := hO.mv hE rfl rfl
  replace h189 := h189.mv hE rfl
  replace h192 := h192.mv hE rfl
  obtain ⟨a198, c199, a201, c202, hp, h200, h203, hc204⟩ := hp
  obtain ⟨r197, hr⟩ : ∃ r, proof_line_row (-10000000) 10000000 false r186.2 = r := ⟨_, rfl⟩
  replace hm := hm r197 hr
  rw [hr] at hp h200 h203 hc204
  clear hr
  subst hp
  replace hm := hm (h200.sm kr)
  replace hm := hm (h203.sm kr)
  replace hS := hS.addbox (id := 901) (t := 96) (cs := [Sl a201 r197.2.rest c202, I r197.2.at_, I r197.2.e]) kr hc204
  clear hc204
  refine eM T hS ⟨[(0, Pt 901 0), (2, Pt 3 0), (3, I ((gi cap1.rest 0).At)), (4, Pt 5 0)], [(3, (98, [I 0, I 0, V (.slice none 0 0), V (.slice none 0 0)])), (5, (98, [I 1, I r109.1, Sl a187 r186.1 c188, Sl a198 r197.1 c199])), (901, (96, [Sl a201 r197.2.rest c202, I r197.2.at_, I r197.2.e]))]⟩ fun ρ a w213 χ214 hS hE hr => ?_
  replace hO := hO.mv hE rfl rfl
  replace h189 := h189.mv hE rfl
  replace h200 := h200.mv hE rfl
  replace h203 := h203.mv hE rfl
  replace hP := hP.mv hr kr
  clear hE hr
  refine rP T hS ⟨[(0, Pt 901 0), (2, Pt 3 0), (3, I ((gi cap1.rest 0).At)), (4, Pt 5 0), (74, B (r109.1 == 0))], [(3, (98, [I 0, I 0, V (.slice none 0 0), V (.slice none 0 0)])), (5, (98, [I 1, I r109.1, Sl a187 r186.1 c188, Sl a198 r197.1 c199])), (901, (96, [Sl a201 r197.2.rest c202, I r197.2.at_, I r197.2.e]))]⟩ fun a hS => ?_
  refine wcond hS (b := (r109.1 == 0)) kr (fun hb => ?_) (fun hb => ?_)
  ·replace hm := hm.1 hb
   refine region ?_
   refine oP T hS 2 ⟨[(0, Pt 901 0), (2, Pt 3 0), (4, Pt 5 0), (75, Pt 901 0), (76, I ((gi cap1.rest 0).At))], [(3, (98, [I 0, I 0, V (.slice none 0 0), V (.slice none 0 0)])), (5, (98, [I 1, I r109.1, Sl a187 r186.1 c188, Sl a198 r197.1 c199])), (901, (96, [Sl a201 r197.2.rest c202, I r197.2.at_, I r197.2.e]))]⟩ fun a hS => ?_
   refine op1 (callR hS kr kr hb75 kr (k75 _ _ ((gi cap1.rest 0).At) 7 r197.2 a201 c202 (ρ 901) 901 h203 (hS.cell (id := 901) (t := 96) (cs := [Sl a201 r197.2.rest c202, I r197.2.at_, I r197.2.e]) kr) ⟨by decide, by decide⟩) ?_)
   intro v205 a w206 χ207 hE hp hS
   replace hO := hO.mv hE rfl rfl
   replace h189 := h189.mv hE rfl
   replace h200 := h200.mv hE rfl
   replace h203 := h203.mv hE rfl
   obtain ⟨a209, c210, hp, h211, hc212⟩ := hp
   obtain ⟨r208, hr⟩ : ∃ r, proof_line_wrong ((gi cap1.rest 0).At) 7 r197.2 = r := ⟨_, rfl⟩
   replace hm := hm r208 hr
   rw [hr] at h211 hc212
   clear hr
   subst hp
   replace hm := hm (h211.sm kr)
   replace hS := hS.addbox (id := 901) (t := 96) (cs := [Sl a209 r208.rest c210, I r208.at_, I r208.e]) kr hc212
   clear hc212
   refine doneK ?_
   exact ⟨ρ, _, 1, r186.1, r197.1, r208.rest, r208.at_, r208.e, a187, c188, a198, c199, a209, c210, hm, hS.sl _, hO, hP, h189, h200, h211⟩
  replace hm := hm.2 hb
  refine wskip ?_
  exact ⟨ρ, _, 1, r186.1, r197.1, r197.2.rest, r197.2.at_, r197.2.e, a187, c188, a198, c199, a201, c202, hm, hS.sl _, hO, hP, h189, h200, h203⟩
 rintro a w225 ⟨ρ, χ224, x_114, x_115, x_119, x_123, x_127, x_128, a116, c117, a120, c121, a124, c125, hm, hS, hO, hP, h118, h122, h126⟩
 unfold VC50_J1 at hm
 refine wcut (fun a w => ∃ (ρ : Nat → Nat) (χ : Nat → Nat) (x_131 : List Token_Token) (x_135 : Int) (x_136 : Int) (a132 : Option Addr) (c133 : Nat), VC50_J2 Q r109 x_114 x_115 x_119 x_131 x_135 x_136 ∧ St Tryz.f50.ntmps ⟨[(2, Pt 3 0), (4, Pt 5 0)], [(3, (98, [I 0, I 0, V (.slice none 0 0), V (.slice none 0 0)])), (5, (98, [I x_114, I r109.1, Sl a116 x_115 c117, Sl a120 x_119 c121])), (901, (96, [Sl a132 x_131 c133, I x_135, I x_136]))]⟩ ρ a w χ ∧ OldR (f0of [(i1, 901)]) w0 χ0 w χ ∧ Pin [(901, b1)] ρ ∧ RS tI w χ a116 x_115 c117 ∧ RS tI w χ a120 x_119 c121 ∧ RS tToken_Token w χ a132 x_131 c133) ?_ ?_
 ·refine rP T hS ⟨[(0, Pt 901 0), (2, Pt 3 0), (4, Pt 5 0), (83, B (decide ((lN x_123) > 0)))], [(3, (98, [I 0, I 0, V (.slice none 0 0), V (.slice none 0 0)])), (5, (98, [I x_114, I r109.1, Sl a116 x_115 c117, Sl a120 x_119 c121])), (901, (96, [Sl a124 x_123 c125, I x_127, I x_128]))]⟩ fun a hS => ?_
  refine wcond hS (b := decide ((lN x_123) > 0)) kr (fun hb => ?_) (fun hb => ?_)
  ·replace hm := hm.1 hb
   refine region ?_
   refine oP T hS 5 ⟨[(2, Pt 3 0), (4, Pt 5 0), (84, Pt 901 0), (88, Sl a124 x_123 c125)], [(3, (98, [I 0, I 0, V (.slice none 0 0), V (.slice none 0 0)])), (5, (98, [I x_114, I r109.1, Sl a116 x_115 c117, Sl a120 x_119 c121])), (901, (96, [Sl a124 x_123 c125, I x_127, I x_128]))]⟩ fun a hS => ?_
   obtain ⟨hq, hm⟩ := hm
   refine op1 (index (e := 60) (k := .i64) T hS kr kr kr kr h126 kr kr hq.1 hq.2 ?_)
   intro A139 a h140 hS
   refine op1 (fieldA (off := 1) (fsz := 1) (ft := 3) (TF := tI) (y := (gi x_123 0).At) T hS kr kr kr h140 kr kr kr (fun cs h => Token_Token_f1 h) ?_)
   intro A141 a h142 hS
   refine op1 (load1 T hS kr kr kr h142 rfl kr ?_)
   intro v143 a hv hS
   cases hv
   refine op1 (callR hS kr kr hb75 kr (k75 _ _ ((gi x_123 0).At) 6 (⟨x_123, x_127, x_128⟩ : Proof_line) a124 c125 (ρ 901) 901 h126 (hS.cell (id := 901) (t := 96) (cs := [Sl a124 x_123 c125, I x_127, I x_128]) kr) ⟨by decide, by decide⟩) ?_)
   intro v144 a w145 χ146 hE hp hS
   replace hO := hO.mv hE rfl rfl
   replace h118 := h118.mv hE rfl
   replace h122 := h122.mv hE rfl
   replace h126 := h126.mv hE rfl
   replace h140 := h140.mv hE rfl
   replace h142 := h142.mv hE rfl
   obtain ⟨a148, c149, hp, h150, hc151⟩ := hp
   obtain ⟨r147, hr⟩ : ∃ r, proof_line_wrong ((gi x_123 0).At) 6 (⟨x_123, x_127, x_128⟩ : Proof_line) = r := ⟨_, rfl⟩
   replace hm := hm r147 hr
   rw [hr] at h150 hc151
   clear hr
   subst hp
   replace hm := hm (h150.sm kr)
   replace hS := hS.addbox (id := 901) (t := 96) (cs := [Sl a148 r147.rest c149, I r147.at_, I r147.e]) kr hc151
   clear hc151
   refine doneK ?_
   exact ⟨ρ, _, r147.rest, r147.at_, r147.e, a148, c149, hm, hS.sl _, hO, hP, h118, h122, h150⟩
  replace hm := hm.2 hb
  refine wskip ?_
  exact ⟨ρ, _, x_123, x_127, x_128, a124, c125, hm, hS.sl _, hO, hP, h118, h122, h126⟩
 rintro a w153 ⟨ρ, χ152, x_131, x_135, x_136, a132, c133, hm, hS, hO, hP, h129, h130, h134⟩
 unfold VC50_J2 at hm
 refine rM T hS ⟨[(2, Pt 3 0)], [(3, (98, [I x_114, I r109.1, Sl a116 x_115 c117, Sl a120 x_119 c121])), (901, (96, [Sl a132 x_131 c133, I x_135, I x_136]))]⟩ fun ρ a w137 χ138 hS hE hr => ?_
 replace hO := hO.mv hE rfl rfl
 replace h129 := h129.mv hE rfl
 replace h130 := h130.mv hE rfl
 replace h134 := h134.mv hE rfl
 replace hP := hP.mv hr kr
 clear hE hr
 refine wret ?_
 exact finR T hS hO (fun c h => f0of_zero kr h) (fun c h => f0of_else (l := [(i1, 901)]) h) (f1of [(i1, 901)]) rfl (r := [.agg #[.int .i64 x_114, .int .i64 r109.1, .slice a116 x_115.length c117, .slice a120 x_119.length c121]]) kr (fun χ' hM hC => ⟨((⟨x_114, r109.1, x_115, x_119⟩ : Api_Step), (⟨x_131, x_135, x_136⟩ : Proof_line)), hm, a116, c117, a120, c121, a132, c133, rfl, h129.m0 hM, h130.m0 hM, h134.m0 hM, ((hS.cell (id := 901) (t := 96) (cs := [Sl a132 x_131 c133, I x_135, I x_136]) kr).out (f := (f1of [(i1, 901)])) hC kr kr (hP.at 0 rfl))⟩)
theorem C50 (k73 : S73) (k74 : S74) (k75 : S75) (v : ∀ (cap1 : Proof_line), preStep cap1 → VC50 cap1 (fun r => r = proof_line_step cap1)) : S50 := by
 intro w χ cap1 a1 c1  b1 i1 hp h1 hc1 hA
 refine (W50 k73 k74 k75 w χ cap1 a1 c1  b1 i1 _ (v cap1 hp) h1 hc1 hA).mono ?_
 rintro _ _ _ _ ⟨r, rfl, h⟩
 exact h
theorem W21 (k17 : S17) (k50 : S50) (w0 : World) (χ0 : Nat → Nat) (s_ : List UInt8) (Q : (List Api_Step) × Int × Int → Prop) (hm : VC21 s_ Q) :
  Ret Tryz.prog 21 #[.string (bs s_)] xnone w0 χ0 (fun w χ' v => ∃ r, Q r ∧ ∃ (ra1 : Option Addr) (rc1 : Nat), v = .tuple #[.slice ra1 r.1.length rc1, .int .i64 r.2.1, .int .i64 r.2.2] ∧ RS tApi_Step w χ' ra1 r.1 rc1) := by
 unfold VC21 at hm
 refine enter Tryz.func21 rfl (vals := [.string (bs s_)]) kr ?_
 intro ρ a hS hO hM
 clear hM
 refine rP T hS ⟨[(0, Z s_), (2, V (.slice none 0 0))], []⟩ fun a hS => ?_
 refine wseq (rP T hS ⟨[(0, Z s_), (2, V (.slice none 0 0)), (10, B (decide ((lN s_) > 1000000)))], []⟩ fun a hS => ?_)
 refine wcond hS (b := decide ((lN s_) > 1000000)) kr (fun hb => ?_) (fun hb => ?_)
 ·replace hm := hm.1 hb
  refine rP T hS ⟨[(2, V (.slice none 0 0)), (3, I 0), (4, I 3)], []⟩ fun a hS => ?_
  refine wret ?_
  exact fin T hS hO (fun c => c) rfl (r := [.slice none 0 0, .int .i64 0, .int .i64 3]) kr (fun χ' hM hC => ⟨([], 0, 3), hm, none, 0, rfl, RS.empty _ _ _⟩)
 replace hm := hm.2 hb
 refine wskip ?_
 refine wcut (fun a w => ∃ (ρ : Nat → Nat) (χ : Nat → Nat) (l_101 : List Api_Step) (a102 : Option Addr) (c103 : Nat), VC21_J1 s_ Q l_101 ∧ St Tryz.f21.ntmps ⟨[(0, Z s_), (2, Sl a102 l_101 c103)], []⟩ ρ a w χ ∧ Old w0 χ0 w χ ∧ OS tApi_Step 98 w χ 1003 a102 l_101 c103) ?_ ?_
 ·refine regO ?_
  refine oP T hS 1 ⟨[(0, Z s_), (2, V (.slice none 0 0)), (11, Z s_)], []⟩ fun a hS => ?_
  obtain ⟨hq, hm⟩ := hm
  refine op1 (call hS kr kr hb17 kr (fun _ _ => rfl) (k17 _ _ s_ hq) ?_)
  intro v107 a w108 χ109 hE hp hS
  replace hO := hO.mv hE rfl rfl
  obtain ⟨a111, c112, hp, h113⟩ := hp
  obtain ⟨r110, hr⟩ : ∃ r, token_Lines s_ = r := ⟨_, rfl⟩
  replace hm := hm r110 hr
  rw [hr] at hp h113
  clear hr
  subst hp
  replace hm := hm (h113.sm kr)
  refine eP T hS ⟨[(0, Z s_), (2, V (.slice none 0 0)), (12, Sl a111 r110 c112), (13, I (lN r110)), (14, I 0)], []⟩ fun a hS => ?_
  refine wblock ?_
  obtain ⟨I1, μ1, hm0, hm⟩ := hm
  refine wloop (σ := (List Api_Step) × Int) (fun s a w => ∃ (ρ : Nat → Nat) (χ : Nat → Nat) (a115 : Option Addr) (c116 : Nat), I1 s.1 s.2 ∧ St Tryz.f21.ntmps ⟨[(0, Z s_), (2, Sl a115 s.1 c116), (12, Sl a111 r110 c112), (13, I (lN r110)), (14, I s.2)], []⟩ ρ a w χ ∧ Old w0 χ0 w χ ∧ OS tApi_Step 98 w χ 1003 a115 s.1 c116 ∧ RS (tSlice tToken_Token) w χ a111 r110 c112) (fun s => μ1 s.1 s.2) (⟨[], 0⟩) ?_ ?_
  ·exact ⟨ρ, _, none, 0, hm0, hS.sl _, hO, (OS.nil _ _ _ _ _), h113⟩
  rintro ⟨l_114, x_119⟩ a w168 ⟨ρ, χ167, a115, c116, hI, hS, hO, h117, h118⟩
  replace hm := hm l_114 x_119 hI
  clear hI hm0
  refine rP T hS ⟨[(0, Z s_), (2, Sl a115 l_114 c116), (12, Sl a111 r110 c112), (13, I (lN r110)), (14, I x_119), (15, B (decide (x_119 < (lN r110))))], []⟩ fun a hS => ?_
  refine wseq ?_
  refine wcond hS (b := decide (x_119 < (lN r110))) kr (fun hb => ?_) (fun hb => ?_)
  ·replace hm := hm.1 hb
   refine wskip ?_
   refine wcut (fun a w => ∃ (ρ : Nat → Nat) (χ : Nat → Nat) (l_120 : List Api_Step) (a121 : Option Addr) (c122 : Nat), VC21_J2 I1 μ1 l_114 x_119 l_120 ∧ St Tryz.f21.ntmps ⟨[(0, Z s_), (2, Sl a121 l_120 c122), (12, Sl a111 r110 c112), (13, I (lN r110)), (14, I x_119)], []⟩ ρ a w χ ∧ Old w0 χ0 w χ ∧ OS tApi_Step 98 w χ 1003 a121 l_120 c122 ∧ RS (tSlice tToken_Token) w χ a111 r110 c112) ?_ ?_
   ·refine wblock ?_
    refine regO ?_
    obtain ⟨hq, hm⟩ := hm
    refine op1 (index (e := 57) (k := .i64) T hS kr kr kr kr h118 kr kr hq.1 hq.2 ?_)
    intro A125 a h126 hS
    refine op1 (load1 T hS kr kr kr h126 rfl kr ?_)
    intro v127 a hv hS
    obtain ⟨a128, c129, hv, h130⟩ := hv
    cases hv
    replace hm := hm (h130.sm kr)
    refine eP T hS ⟨[(0, Z s_), (2, Sl a115 l_114 c116), (6, Sl a128 (gi r110 x_119) c129), (12, Sl a111 r110 c112), (13, I (lN r110)), (14, I x_119)], []⟩ fun a hS => ?_
    refine wseq (rP T hS ⟨[(0, Z s_), (2, Sl a115 l_114 c116), (6, Sl a128 (gi r110 x_119) c129), (12, Sl a111 r110 c112), (13, I (lN r110)), (14, I x_119), (20, B ((lN (gi r110 x_119)) == 0))], []⟩ fun a hS => ?_)
    refine wcond hS (b := ((lN (gi r110 x_119)) == 0)) kr (fun hb => ?_) (fun hb => ?_)
    ·replace hm := hm.1 hb
     refine wexit (by rfl) ?_
     exact ⟨ρ, _, l_114, a115, c116, hm, hS.sl _, hO, h117, h118⟩
    replace hm := hm.2 hb
    refine wskip ?_
    refine wseq (rP T hS ⟨[(0, Z s_), (2, Sl a115 l_114 c116), (6, Sl a128 (gi r110 x_119) c129), (12, Sl a111 r110 c112), (13, I (lN r110)), (14, I x_119), (23, B (decide ((lN l_114) ≥ 1000000)))], []⟩ fun a hS => ?_)
    refine wcond hS (b := decide ((lN l_114) ≥ 1000000)) kr (fun hb => ?_) (fun hb => ?_)
    ·replace hm := hm.1 hb
     refine drawnSX [] mixed hS ?_
     intro w131 χ132 hS hE hD hH
     replace hO := hO.mv hE rfl rfl
     replace h117 := h117.mv hE rfl rfl
     replace h130 := h130.mv hE rfl
     refine tk T [0, 4] [] hS hH #[true, false, false, false, true, false, false] 5 ⟨[(2, V (.slice none 0 0)), (24, Sl a128 (gi r110 x_119) c129)], []⟩ fun a hS => ?_
     obtain ⟨hq, hm⟩ := hm
     refine dindex (e := 60) (k := .i64) T 1 hS kr kr kr (by rfl) kr hH kr kr h130 kr kr hq.1 hq.2 ?_
     intro A133 a h134 hS
     have h134b := h134.here
     refine dfieldA (off := 1) (fsz := 1) (ft := 3) (TF := tI) (y := (gi (gi r110 x_119) 0).At) 2 T hS kr kr kr (by rfl) kr hH kr h134 kr kr kr (fun cs h => Token_Token_f1 h) ?_
     intro A135 a h136 hbl hS
     have h136b := h134b
     rw [← hbl] at h136b
     clear hbl
     refine dload1 T 3 hS kr kr kr (by rfl) kr hH kr h136 h136b rfl kr ?_
     intro v137 a hv hS
     cases hv
     refine tk T [5, 6] [] hS hH #[true, true, true, true, true, true, true] 0 ⟨[(2, V (.slice none 0 0)), (3, I ((gi (gi r110 x_119) 0).At)), (4, I 3)], []⟩ fun a hS => ?_
     refine drawnDone kr ?_
     clear hD hH
     replace hS := hS.sl ⟨[(2, V (.slice none 0 0)), (3, I ((gi (gi r110 x_119) 0).At)), (4, I 3)], []⟩
     refine wret ?_
     exact fin T hS hO (fun c => c) rfl (r := [.slice none 0 0, .int .i64 ((gi (gi r110 x_119) 0).At), .int .i64 3]) kr (fun χ' hM hC => ⟨([], (gi (gi r110 x_119) 0).At, 3), hm, none, 0, rfl, RS.empty _ _ _⟩)
    replace hm := hm.2 hb
    refine wskip ?_
    refine rM T hS ⟨[(0, Z s_), (2, Sl a115 l_114 c116), (7, Pt 31 0), (12, Sl a111 r110 c112), (13, I (lN r110)), (14, I x_119)], [(31, (96, [Sl a128 (gi r110 x_119) c129, I 0, I 0]))]⟩ fun ρ a w163 χ164 hS hE hr => ?_
    replace hO := hO.mv hE rfl rfl
    replace h117 := h117.mv hE rfl rfl
    replace h118 := h118.mv hE rfl
    replace h130 := h130.mv hE rfl
    clear hE hr
    refine regO ?_
    refine oP T hS 2 ⟨[(0, Z s_), (2, Sl a115 l_114 c116), (7, Pt 31 0), (12, Sl a111 r110 c112), (13, I (lN r110)), (14, I x_119), (31, Sl a115 l_114 c116), (32, Pt 31 0)], [(31, (96, [Sl a128 (gi r110 x_119) c129, I 0, I 0]))]⟩ fun a hS => ?_
    obtain ⟨hq, hm⟩ := hm
    refine op1 (callR hS kr kr hb50 kr (k50 _ _ (⟨gi r110 x_119, 0, 0⟩ : Proof_line) a128 c129 (ρ 31) 31 hq h130 (hS.cell (id := 31) (t := 96) (cs := [Sl a128 (gi r110 x_119) c129, I 0, I 0]) kr) ⟨by decide, by decide⟩) ?_)
    intro v138 a w139 χ140 hE hp hS
    replace hO := hO.mv hE rfl rfl
    replace h117 := h117.mv hE rfl rfl
    replace h118 := h118.mv hE rfl
    replace h130 := h130.mv hE rfl
    obtain ⟨a142, c143, a145, c146, a148, c149, hp, h144, h147, h150, hc151⟩ := hp
    obtain ⟨r141, hr⟩ : ∃ r, proof_line_step (⟨gi r110 x_119, 0, 0⟩ : Proof_line) = r := ⟨_, rfl⟩
    replace hm := hm r141 hr
    rw [hr] at hp h144 h147 h150 hc151
    clear hr
    subst hp
    replace hm := hm (h144.sm kr)
    replace hm := hm (h147.sm kr)
    replace hm := hm (h150.sm kr)
    replace hS := hS.addbox (id := 31) (t := 96) (cs := [Sl a148 r141.2.rest c149, I r141.2.at_, I r141.2.e]) kr hc151
    clear hc151
    refine op1 (lit (E := 98) (col := 0) (T := tApi_Step) (vals := [.agg #[.int .i64 r141.1.Kind, .int .i64 r141.1.Id, .slice a142 r141.1.Lits.length c143, .slice a145 r141.1.Hints.length c146]]) (ys := [r141.1]) T hS kr kr kr kr (by exact ⟨⟨a142, c143, a145, c146, rfl, h144, h147⟩, trivial⟩) rfl kr kr kr kr ?_)
    intro b152 a w153 χ154 hE h155 hN hS
    clear hN
    replace hO := hO.mv hE rfl rfl
    replace h117 := h117.mv hE rfl rfl
    replace h118 := h118.mv hE rfl
    replace h130 := h130.mv hE rfl
    replace h144 := h144.mv hE rfl
    replace h147 := h147.mv hE rfl
    replace h150 := h150.mv hE rfl
    replace h155 := h155.rs0
    obtain ⟨hq, hm⟩ := hm
    obtain ⟨news, hN⟩ := h155.src
    refine op1 (append (E := 98) (T := tApi_Step) (col := 1003) (xs := l_114) T hS kr kr kr kr h117 hN kr kr kr kr hq ?_)
    intro a159 c160 a w156 χ157 hE h158 hS
    clear hq hN
    clear h117
    replace hO := hO.mv hE rfl rfl
    replace h118 := h118.mv hE rfl
    replace h130 := h130.mv hE rfl
    replace h144 := h144.mv hE rfl
    replace h147 := h147.mv hE rfl
    replace h150 := h150.mv hE rfl
    replace h155 := h155.mv hE rfl
    refine eP T hS ⟨[(0, Z s_), (2, Sl a159 (l_114 ++ [r141.1]) c160), (7, Pt 31 0), (12, Sl a111 r110 c112), (13, I (lN r110)), (14, I x_119)], [(31, (96, [Sl a148 r141.2.rest c149, I r141.2.at_, I r141.2.e]))]⟩ fun a hS => ?_
    refine rP T hS ⟨[(0, Z s_), (2, Sl a159 (l_114 ++ [r141.1]) c160), (7, Pt 31 0), (12, Sl a111 r110 c112), (13, I (lN r110)), (14, I x_119), (40, B (r141.2.e != 0))], [(31, (96, [Sl a148 r141.2.rest c149, I r141.2.at_, I r141.2.e]))]⟩ fun a hS => ?_
    refine wcond hS (b := (r141.2.e != 0)) kr (fun hb => ?_) (fun hb => ?_)
    ·replace hm := hm.1 hb
     refine drawnSX [31] mixed hS ?_
     intro w161 χ162 hS hE hD hH
     replace hO := hO.mv hE rfl rfl
     replace h150 := h150.mv hE rfl
     replace h158 := h158.mv hE rfl rfl
     refine tk T [0, 4, 8, 1, 5, 2, 6, 3, 7, 9, 10] [31] hS hH #[true, true, true, true, true, true, true, true, true, true, true] 0 ⟨[(2, V (.slice none 0 0)), (3, I r141.2.at_), (4, I r141.2.e)], [(31, (96, [Sl a148 r141.2.rest c149, I r141.2.at_, I r141.2.e]))]⟩ fun a hS => ?_
     refine drawnDone kr ?_
     clear hD hH
     replace hS := hS.sl ⟨[(2, V (.slice none 0 0)), (3, I r141.2.at_), (4, I r141.2.e)], []⟩
     refine wret ?_
     exact fin T hS hO (fun c => c) rfl (r := [.slice none 0 0, .int .i64 r141.2.at_, .int .i64 r141.2.e]) kr (fun χ' hM hC => ⟨([], r141.2.at_, r141.2.e), hm, none, 0, rfl, RS.empty _ _ _⟩)
    replace hm := hm.2 hb
    refine wskip ?_
    exact ⟨ρ, _, l_114 ++ [r141.1], a159, c160, hm, hS.sl _, hO, h158, h118⟩
   rintro a w166 ⟨ρ, χ165, l_120, a121, c122, hm, hS, hO, h123, h124⟩
   unfold VC21_J2 at hm
   refine region (eP T hS ⟨[(0, Z s_), (2, Sl a121 l_120 c122), (12, Sl a111 r110 c112), (13, I (lN r110)), (14, I (wR (x_119 + 1)))], []⟩ fun a hS => ?_)
   exact ⟨⟨l_120, wR (x_119 + 1)⟩, ⟨ρ, _, a121, c122, hm.1, hS.sl _, hO, h123, h124⟩, hm.2⟩
  replace hm := hm.2 hb
  refine wexit (by rfl) ?_
  exact ⟨ρ, _, l_114, a115, c116, hm, hS.sl _, hO, h117⟩
 rintro a w170 ⟨ρ, χ169, l_101, a102, c103, hm, hS, hO, h104⟩
 unfold VC21_J1 at hm
 refine rP T hS ⟨[(2, Sl a102 l_101 c103), (3, I (lN s_)), (4, I 0)], []⟩ fun a hS => ?_
 refine wret ?_
 obtain ⟨χ105, hE, hF⟩ := h104.freeze (by decide)
 replace hS := hS.ev hE (xone_box kr)
 replace hO := hO.mv hE rfl rfl
 have h106 := hF; clear hE hF
 exact fin T hS hO (fun c => c) rfl (r := [.slice a102 l_101.length c103, .int .i64 (lN s_), .int .i64 0]) kr (fun χ' hM hC => ⟨(l_101, (lN s_), 0), hm, a102, c103, rfl, h106.m0 hM⟩)
theorem C21 (k17 : S17) (k50 : S50) (v : ∀ (s_ : List UInt8), VC21 s_ (fun r => r = proof_Parse s_)) : S21 := by
 intro w χ s_    
 refine (W21 k17 k50 w χ s_    _ (v s_)).mono ?_
 rintro _ _ _ _ ⟨r, rfl, h⟩
 exact h
theorem W79 (k55 : S55) (w0 : World) (χ0 : Nat → Nat) (p_ : Api_Step) (out : List Int) (l_ : List Int) (a1 : Option Addr) (c1 : Nat) (a2 : Option Addr) (c2 : Nat) (a3 : Option Addr) (c3 : Nat) (m3 : Nat) (a4 : Option Addr) (c4 : Nat) (Q : (List Int) → Prop) (hm : VC79 p_ out l_ Q) (h1 : RS tI w0 χ0 a1 p_.Lits c1) (h2 : RS tI w0 χ0 a2 p_.Hints c2) (h3 : OS (tInt .u8 1) 5 w0 χ0 m3 a3 out c3) (h4 : RS tI w0 χ0 a4 l_ c4) (hA : Apart [m3]) (hAmb : Amb w0 χ0) :
  Ret Tryz.prog 79 #[.agg #[.int .i64 p_.Kind, .int .i64 p_.Id, .slice a1 p_.Lits.length c1, .slice a2 p_.Hints.length c2], .slice a3 out.length c3, .slice a4 l_.length c4] (pR [m3]) w0 χ0 (fun w χ' v => ∃ r, Q r ∧ ∃ (ra1 : Option Addr) (rc1 : Nat), v = .slice ra1 r.length rc1 ∧ OS (tInt .u8 1) 5 w χ' m3 ra1 r rc1) := by
 unfold VC79 at hm
 replace hm := hm (h1.sm kr)
 replace hm := hm (h2.sm kr)
 replace hm := hm (h3.sm kr)
 replace hm := hm (h4.sm kr)
 refine enterR Tryz.func79 rfl (f0of [(m3, 2003)]) (fun id => 0) (args := [V (.agg #[.int .i64 p_.Kind, .int .i64 p_.Id, .slice a1 p_.Lits.length c1, .slice a2 p_.Hints.length c2]), Sl a3 out c3, Sl a4 l_ c4]) (bxs := []) kr rfl BoxesOK.nil (f0of_0 (fun q hq => (hA.2 q.1 (List.mem_map.2 ⟨q, hq, rfl⟩)).1)) ?_
 intro a hS hO hM
 generalize (fun id : Nat => 0) = ρ at hS
 replace h1 := h1.m0 hM
 replace h2 := h2.m0 hM
 replace h3 := h3.map (f := f0of [(m3, 2003)]) (f0of_at 0 hA.1 rfl) hM
 replace h4 := h4.m0 hM
 replace hAmb := hAmb.m0 hM
 clear hM
 refine rM T hS ⟨[(1, Sl a3 out c3), (2, Sl a4 l_ c4)], []⟩ fun ρ a w145 χ146 hS hE hr => ?_
 replace hO := hO.mv hE rfl rfl
 replace h3 := h3.mv hE rfl rfl
 replace h4 := h4.mv hE rfl
 replace hAmb := hAmb.mv hE rfl
 clear hE hr
 refine wcut (fun a w => ∃ (ρ : Nat → Nat) (χ : Nat → Nat) (out_101 : List Int) (a102 : Option Addr) (c103 : Nat), VC79_J1 Q out_101 ∧ St Tryz.f79.ntmps ⟨[(1, Sl a102 out_101 c103)], []⟩ ρ a w χ ∧ OldR (f0of [(m3, 2003)]) w0 χ0 w χ ∧ OS (tInt .u8 1) 5 w χ 2003 a102 out_101 c103 ∧ Amb w χ) ?_ ?_
 ·refine rP T hS ⟨[(1, Sl a3 out c3), (9, Sl a4 l_ c4), (10, I (lN l_)), (11, I 0)], []⟩ fun a hS => ?_
  refine wblock ?_
  obtain ⟨I1, μ1, hm0, hm⟩ := hm
  refine wloop (σ := (List Int) × Int) (fun s a w => ∃ (ρ : Nat → Nat) (χ : Nat → Nat) (a115 : Option Addr) (c116 : Nat), I1 s.1 s.2 ∧ St Tryz.f79.ntmps ⟨[(1, Sl a115 s.1 c116), (9, Sl a4 l_ c4), (10, I (lN l_)), (11, I s.2)], []⟩ ρ a w χ ∧ OldR (f0of [(m3, 2003)]) w0 χ0 w χ ∧ OS (tInt .u8 1) 5 w χ 2003 a115 s.1 c116 ∧ RS tI w χ a4 l_ c4 ∧ Amb w χ) (fun s => μ1 s.1 s.2) (⟨out, 0⟩) ?_ ?_
  ·exact ⟨ρ, _, a3, c3, hm0, hS.sl _, hO, h3, h4, hAmb⟩
  rintro ⟨out_114, x_119⟩ a w142 ⟨ρ, χ141, a115, c116, hI, hS, hO, h117, h118, hAmb⟩
  replace hm := hm out_114 x_119 hI
  clear hI hm0
  refine rP T hS ⟨[(1, Sl a115 out_114 c116), (9, Sl a4 l_ c4), (10, I (lN l_)), (11, I x_119), (12, B (decide (x_119 < (lN l_))))], []⟩ fun a hS => ?_
  refine wseq ?_
  refine wcond hS (b := decide (x_119 < (lN l_))) kr (fun hb => ?_) (fun hb => ?_)
  ·replace hm := hm.1 hb
   refine wskip (wseq ?_)
   refine wblock ?_
   refine regO ?_
   obtain ⟨hq, hm⟩ := hm
   refine op1 (index (e := 3) (k := .i64) T hS kr kr kr kr h118 kr kr hq.1 hq.2 ?_)
   intro A120 a h121 hS
   refine op1 (load1 T hS kr kr kr h121 rfl kr ?_)
   intro v122 a hv hS
   cases hv
   refine eP T hS ⟨[(1, Sl a115 out_114 c116), (8, I (gi l_ x_119)), (9, Sl a4 l_ c4), (10, I (lN l_)), (11, I x_119)], []⟩ fun a hS => ?_
   refine region ?_
   refine oP T hS 2 ⟨[(1, Sl a115 out_114 c116), (9, Sl a4 l_ c4), (10, I (lN l_)), (11, I x_119), (15, Sl a115 out_114 c116), (16, I (gi l_ x_119))], []⟩ fun a hS => ?_
   obtain ⟨hq, hm⟩ := hm
   refine op1 (call hS kr kr hb55 kr (fun _ _ => rfl) (k55 _ _ (gi l_ x_119) hq hAmb) ?_)
   intro v123 a w124 χ125 hE hp hS
   replace hO := hO.mv hE rfl rfl
   replace h117 := h117.mv hE rfl rfl
   replace h118 := h118.mv hE rfl
   replace hAmb := hAmb.mv hE rfl
   obtain ⟨r126, hr⟩ : ∃ r, token_Digits (gi l_ x_119) = r := ⟨_, rfl⟩
   replace hm := hm r126 hr
   rw [hr] at hp
   clear hr
   subst hp
   obtain ⟨hq, hm⟩ := hm
   refine op1 (appendS (E := 5) (col := 2003) (xs := out_114) (s := r126) T hS kr kr kr kr h117 kr kr kr kr hq ?_)
   intro a130 c131 a w127 χ128 hE h129 hS
   clear h117
   replace hO := hO.mv hE rfl rfl
   replace h118 := h118.mv hE rfl
   replace hAmb := hAmb.mv hE rfl
   refine op1 (lit (E := 5) (col := 0) (T := (tInt .u8 1)) (vals := [.int .u8 32]) (ys := [32]) T hS kr kr kr kr (by exact ⟨rfl, trivial⟩) rfl kr kr kr kr ?_)
   intro b132 a w133 χ134 hE h135 hN hS
   clear hN
   replace hO := hO.mv hE rfl rfl
   replace h118 := h118.mv hE rfl
   replace hAmb := hAmb.mv hE rfl
   replace h129 := h129.mv hE rfl rfl
   replace h135 := h135.rs0
   obtain ⟨hq, hm⟩ := hm
   obtain ⟨news, hN⟩ := h135.src
   refine op1 (append (E := 5) (T := (tInt .u8 1)) (col := 2003) (xs := out_114 ++ toI r126) T hS kr kr kr kr h129 hN kr kr kr kr hq ?_)
   intro a139 c140 a w136 χ137 hE h138 hS
   clear hq hN
   clear h129
   replace hO := hO.mv hE rfl rfl
   replace h118 := h118.mv hE rfl
   replace hAmb := hAmb.mv hE rfl
   replace h135 := h135.mv hE rfl
   refine eP T hS ⟨[(1, Sl a139 ((out_114 ++ toI r126) ++ [32]) c140), (9, Sl a4 l_ c4), (10, I (lN l_)), (11, I x_119)], []⟩ fun a hS => ?_
   refine region (eP T hS ⟨[(1, Sl a139 ((out_114 ++ toI r126) ++ [32]) c140), (9, Sl a4 l_ c4), (10, I (lN l_)), (11, I (wR (x_119 + 1)))], []⟩ fun a hS => ?_)
   exact ⟨⟨(out_114 ++ toI r126) ++ [32], wR (x_119 + 1)⟩, ⟨ρ, _, a139, c140, hm.1, hS.sl _, hO, h138, h118, hAmb⟩, hm.2⟩
  replace hm := hm.2 hb
  refine wexit (by rfl) ?_
  exact ⟨ρ, _, out_114, a115, c116, hm, hS.sl _, hO, h117, hAmb⟩
 rintro a w144 ⟨ρ, χ143, out_101, a102, c103, hm, hS, hO, h104, hAmb⟩
 unfold VC79_J1 at hm
 refine regO ?_
 refine oP T hS 1 ⟨[(22, Sl a102 out_101 c103)], []⟩ fun a hS => ?_
 refine op1 (lit (E := 5) (col := 0) (T := (tInt .u8 1)) (vals := [.int .u8 48]) (ys := [48]) T hS kr kr kr kr (by exact ⟨rfl, trivial⟩) rfl kr kr kr kr ?_)
 intro b105 a w106 χ107 hE h108 hN hS
 clear hN
 replace hO := hO.mv hE rfl rfl
 replace h104 := h104.mv hE rfl rfl
 replace hAmb := hAmb.mv hE rfl
 replace h108 := h108.rs0
 obtain ⟨hq, hm⟩ := hm
 obtain ⟨news, hN⟩ := h108.src
 refine op1 (append (E := 5) (T := (tInt .u8 1)) (col := 2003) (xs := out_101) T hS kr kr kr kr h104 hN kr kr kr kr hq ?_)
 intro a112 c113 a w109 χ110 hE h111 hS
 clear hq hN
 clear h104
 replace hO := hO.mv hE rfl rfl
 replace hAmb := hAmb.mv hE rfl
 replace h108 := h108.mv hE rfl
 refine eP T hS ⟨[(6, Sl a112 (out_101 ++ [48]) c113)], []⟩ fun a hS => ?_
 refine wret ?_
 exact finR T hS hO (fun c h => f0of_zero kr h) (fun c h => f0of_else (l := [(m3, 2003)]) h) (f1of [(m3, 2003)]) rfl (r := [.slice a112 (out_101 ++ [48]).length c113]) kr (fun χ' hM hC => ⟨(out_101 ++ [48]), hm, a112, c113, rfl, (OS.out (f := (f1of [(m3, 2003)])) h111 hM hC kr)⟩)
theorem C79 (k55 : S55) (v : ∀ (p_ : Api_Step) (out : List Int) (l_ : List Int), preNums p_ out l_ → VC79 p_ out l_ (fun r => r = proof_printed_numbers p_ out l_)) : S79 := by
 intro w χ p_ out l_ a1 c1 a2 c2 a3 c3 m3 a4 c4   hp h1 h2 h3 h4 hA hAmb
 refine (W79 k55 w χ p_ out l_ a1 c1 a2 c2 a3 c3 m3 a4 c4   _ (v p_ out l_ hp) h1 h2 h3 h4 hA hAmb).mono ?_
 rintro _ _ _ _ ⟨r, rfl, h⟩
 exact h
theorem W56 (k55 : S55) (k79 : S79) (w0 : World) (χ0 : Nat → Nat) (p_ : Api_Step) (out : List Int) (a1 : Option Addr) (c1 : Nat) (a2 : Option Addr) (c2 : Nat) (a3 : Option Addr) (c3 : Nat) (m3 : Nat) (Q : (List Int) → Prop) (hm : VC56 p_ out Q) (h1 : RS tI w0 χ0 a1 p_.Lits c1) (h2 : RS tI w0 χ0 a2 p_.Hints c2) (h3 : OS (tInt .u8 1) 5 w0 χ0 m3 a3 out c3) (hA : Apart [m3]) (hAmb : Amb w0 χ0) :
  Ret Tryz.prog 56 #[.agg #[.int .i64 p_.Kind, .int .i64 p_.Id, .slice a1 p_.Lits.length c1, .slice a2 p_.Hints.length c2], .slice a3 out.length c3] (pR [m3]) w0 χ0 (fun w χ' v => ∃ r, Q r ∧ ∃ (ra1 : Option Addr) (rc1 : Nat), v = .slice ra1 r.length rc1 ∧ OS (tInt .u8 1) 5 w χ' m3 ra1 r rc1) := by
 unfold VC56 at hm
 replace hm := hm (h1.sm kr)
 replace hm := hm (h2.sm kr)
 replace hm := hm (h3.sm kr)
 refine enterR Tryz.func56 rfl (f0of [(m3, 2003)]) (fun id => 0) (args := [V (.agg #[.int .i64 p_.Kind, .int .i64 p_.Id, .slice a1 p_.Lits.length c1, .slice a2 p_.Hints.length c2]), Sl a3 out c3]) (bxs := []) kr rfl BoxesOK.nil (f0of_0 (fun q hq => (hA.2 q.1 (List.mem_map.2 ⟨q, hq, rfl⟩)).1)) ?_
 intro a hS hO hM
 generalize (fun id : Nat => 0) = ρ at hS
 replace h1 := h1.m0 hM
 replace h2 := h2.m0 hM
 replace h3 := h3.map (f := f0of [(m3, 2003)]) (f0of_at 0 hA.1 rfl) hM
 replace hAmb := hAmb.m0 hM
 clear hM
 refine rM T hS ⟨[(1, Sl a3 out c3), (2, Pt 3 0)], [(3, (106, [I p_.Kind, I p_.Id, Sl a1 p_.Lits c1, Sl a2 p_.Hints c2]))]⟩ fun ρ a w283 χ284 hS hE hr => ?_
 replace hO := hO.mv hE rfl rfl
 replace h1 := h1.mv hE rfl
 replace h2 := h2.mv hE rfl
 replace h3 := h3.mv hE rfl rfl
 replace hAmb := hAmb.mv hE rfl
 clear hE hr
 refine rP T hS ⟨[(1, Sl a3 out c3), (2, Pt 3 0), (5, .f (.func 79) [] [])], [(3, (106, [I p_.Kind, I p_.Id, Sl a1 p_.Lits c1, Sl a2 p_.Hints c2]))]⟩ fun a hS => ?_
 refine regO ?_
 refine oP T hS 3 ⟨[(1, Sl a3 out c3), (2, Pt 3 0), (5, .f (.func 79) [] []), (6, Sl a3 out c3), (8, I p_.Id)], [(3, (106, [I p_.Kind, I p_.Id, Sl a1 p_.Lits c1, Sl a2 p_.Hints c2]))]⟩ fun a hS => ?_
 obtain ⟨hq, hm⟩ := hm
 refine op1 (call hS kr kr hb55 kr (fun _ _ => rfl) (k55 _ _ p_.Id hq hAmb) ?_)
 intro v101 a w102 χ103 hE hp hS
 replace hO := hO.mv hE rfl rfl
 replace h1 := h1.mv hE rfl
 replace h2 := h2.mv hE rfl
 replace h3 := h3.mv hE rfl rfl
 replace hAmb := hAmb.mv hE rfl
 obtain ⟨r104, hr⟩ : ∃ r, token_Digits p_.Id = r := ⟨_, rfl⟩
 replace hm := hm r104 hr
 rw [hr] at hp
 clear hr
 subst hp
 obtain ⟨hq, hm⟩ := hm
 refine op1 (appendS (E := 5) (col := 2003) (xs := out) (s := r104) T hS kr kr kr kr h3 kr kr kr kr hq ?_)
 intro a108 c109 a w105 χ106 hE h107 hS
 clear h3
 replace hO := hO.mv hE rfl rfl
 replace h1 := h1.mv hE rfl
 replace h2 := h2.mv hE rfl
 replace hAmb := hAmb.mv hE rfl
 refine op1 (lit (E := 5) (col := 0) (T := (tInt .u8 1)) (vals := [.int .u8 32]) (ys := [32]) T hS kr kr kr kr (by exact ⟨rfl, trivial⟩) rfl kr kr kr kr ?_)
 intro b110 a w111 χ112 hE h113 hN hS
 clear hN
 replace hO := hO.mv hE rfl rfl
 replace h1 := h1.mv hE rfl
 replace h2 := h2.mv hE rfl
 replace hAmb := hAmb.mv hE rfl
 replace h107 := h107.mv hE rfl rfl
 replace h113 := h113.rs0
 obtain ⟨hq, hm⟩ := hm
 obtain ⟨news, hN⟩ := h113.src
 refine op1 (append (E := 5) (T := (tInt .u8 1)) (col := 2003) (xs := out ++ toI r104) T hS kr kr kr kr h107 hN kr kr kr kr hq ?_)
 intro a117 c118 a w114 χ115 hE h116 hS
 clear hq hN
 clear h107
 replace hO := hO.mv hE rfl rfl
 replace h1 := h1.mv hE rfl
 replace h2 := h2.mv hE rfl
 replace hAmb := hAmb.mv hE rfl
 replace h113 := h113.mv hE rfl
 refine eP T hS ⟨[(1, Sl a117 ((out ++ toI r104) ++ [32]) c118), (2, Pt 3 0), (5, .f (.func 79) [] [])], [(3, (106, [I p_.Kind, I p_.Id, Sl a1 p_.Lits c1, Sl a2 p_.Hints c2]))]⟩ fun a hS => ?_
 refine wseq (rP T hS ⟨[(1, Sl a117 ((out ++ toI r104) ++ [32]) c118), (2, Pt 3 0), (5, .f (.func 79) [] []), (15, B (p_.Kind == 2))], [(3, (106, [I p_.Kind, I p_.Id, Sl a1 p_.Lits c1, Sl a2 p_.Hints c2]))]⟩ fun a hS => ?_)
 refine wcond hS (b := (p_.Kind == 2)) kr (fun hb => ?_) (fun hb => ?_)
 ·replace hm := hm.1 hb
  refine drawnSX [3] mixed hS ?_
  intro w119 χ120 hS hE hD hH
  replace hO := hO.mv hE rfl rfl
  replace h1 := h1.mv hE rfl
  replace h2 := h2.mv hE rfl
  replace hAmb := hAmb.mv hE rfl
  replace h116 := h116.mv hE rfl rfl
  refine tk T [0, 1, 2, 4, 5] [3] hS hH #[true, true, true, false, true, true, false, false, false, false] 5 ⟨[(16, .f (.func 79) [] []), (17, V (.agg #[.int .i64 p_.Kind, .int .i64 p_.Id, .slice a1 p_.Lits.length c1, .slice a2 p_.Hints.length c2])), (18, Sl a117 ((out ++ toI r104) ++ [32]) c118), (21, Sl a2 p_.Hints c2)], [(3, (106, [I p_.Kind, I p_.Id, Sl a1 p_.Lits c1, Sl a2 p_.Hints c2]))]⟩ fun a hS => ?_
  obtain ⟨hgq3, hm⟩ := hm
  obtain ⟨hgp6, hm⟩ := hm
  obtain ⟨r129, hgr6⟩ : ∃ r, proof_printed_numbers p_ (((out ++ toI r104) ++ [32]) ++ toI ([100, 32] : List UInt8)) p_.Hints = r := ⟨_, rfl⟩
  replace hm := hm r129 hgr6
  refine drcut (fun a w => ∃ (χ : Nat → Nat) (a194 : Option Addr) (c195 : Nat) (a197 : Option Addr) (c198 : Nat), St Tryz.f56.ntmps ⟨[(22, Sl a194 r129 c195), (23, Sl a197 [10] c198)], [(3, (106, [I p_.Kind, I p_.Id, Sl a1 p_.Lits c1, Sl a2 p_.Hints c2]))]⟩ ρ a w χ ∧ OldR (f0of [(m3, 2003)]) w0 χ0 w χ ∧ M0 w119 χ120 w χ ∧ Hold w119 χ120 (filt [3] ⟨[(1, Sl a117 ((out ++ toI r104) ++ [32]) c118), (2, Pt 3 0), (5, .f (.func 79) [] [])], [(3, (106, [I p_.Kind, I p_.Id, Sl a1 p_.Lits c1, Sl a2 p_.Hints c2]))]⟩) ρ w ∧ OS (tInt .u8 1) 5 w χ 2003 a194 r129 c195 ∧ RS (tInt .u8 1) w χ a197 [10] c198 ∧ RS tI w χ a1 p_.Lits c1 ∧ RS tI w χ a2 p_.Hints c2 ∧ Amb w χ) #[true, true, true, true, true, true, true, true, false, false] 2 ?_ (fun H => ?_)
  ·rintro a w245 ⟨χ244, a194, c195, a197, c198, hS, hO, hD, hH, h193, h196, h199, h200, hAmb⟩
   replace hm := hm (h193.sm kr)
   clear hgq3 hgp6 hgr6
   obtain ⟨hq, hm⟩ := hm
   obtain ⟨news, hN⟩ := h196.src
   refine only 8 kr (by rfl) (append (E := 5) (T := (tInt .u8 1)) (col := 2003) (xs := r129) T hS kr kr kr kr h193 hN kr kr kr kr hq ?_)
   intro a249 c250 a w246 χ247 hE h248 hS
   clear hq hN
   clear h193
   replace hO := hO.mv hE rfl rfl
   replace hD := hD.ev hE rfl
   replace h196 := h196.mv hE rfl
   replace h199 := h199.mv hE rfl
   replace h200 := h200.mv hE rfl
   replace hAmb := hAmb.mv hE rfl
   replace hS := hS.sl ⟨[(23, Sl a197 [10] c198), (24, Sl a249 (r129 ++ [10]) c250)], [(3, (106, [I p_.Kind, I p_.Id, Sl a1 p_.Lits c1, Sl a2 p_.Hints c2]))]⟩
   refine andH (Hold.of hS (bks := [3]) kr hD) ?_
   intro hH
   refine tk T [9] [3] hS hH #[true, true, true, true, true, true, true, true, true, true] 0 ⟨[(4, Sl a249 (r129 ++ [10]) c250)], [(3, (106, [I p_.Kind, I p_.Id, Sl a1 p_.Lits c1, Sl a2 p_.Hints c2]))]⟩ fun a hS => ?_
   refine drawnDone kr ?_
   clear hD hH
   replace hS := hS.sl ⟨[(4, Sl a249 (r129 ++ [10]) c250)], []⟩
   refine wret ?_
   exact finR T hS hO (fun c h => f0of_zero kr h) (fun c h => f0of_else (l := [(m3, 2003)]) h) (f1of [(m3, 2003)]) rfl (r := [.slice a249 (r129 ++ [10]).length c250]) kr (fun χ' hM hC => ⟨(r129 ++ [10]), hm, a249, c250, rfl, (OS.out (f := (f1of [(m3, 2003)])) h248 hM hC kr)⟩)
  clear hm
  refine anyOf (is := [3, 7]) kr (by decide) ?_
  intro i hi
  rcases mem2 hi with rfl | rfl
  ·have hq := hgq3
   refine oneOp (by rfl) (appendS (E := 5) (col := 2003) (xs := (out ++ toI r104) ++ [32]) (s := ([100, 32] : List UInt8)) T hS kr kr kr kr h116 kr kr kr kr hq ?_)
   intro a204 c205 a w201 χ202 hE h203 hS
   clear h116
   replace hO := hO.mv hE rfl rfl
   replace hD := hD.ev hE rfl
   replace h1 := h1.mv hE rfl
   replace h2 := h2.mv hE rfl
   replace hAmb := hAmb.mv hE rfl
   replace hS := hS.sl ⟨[(16, .f (.func 79) [] []), (17, V (.agg #[.int .i64 p_.Kind, .int .i64 p_.Id, .slice a1 p_.Lits.length c1, .slice a2 p_.Hints.length c2])), (21, Sl a2 p_.Hints c2), (19, Sl a204 (((out ++ toI r104) ++ [32]) ++ toI ([100, 32] : List UInt8)) c205)], [(3, (106, [I p_.Kind, I p_.Id, Sl a1 p_.Lits c1, Sl a2 p_.Hints c2]))]⟩
   refine andH (Hold.of hS (bks := [3]) kr hD) ?_
   intro hH
   refine anyOf (is := [6, 7]) kr (by decide) ?_
   intro i hi
   rcases mem2 hi with rfl | rfl
   ·have hq := hgp6
    refine oneOp (by rfl) (callCR (fi := []) (cp := []) hS kr kr hb79 kr kr (k79 _ _ p_ (((out ++ toI r104) ++ [32]) ++ toI ([100, 32] : List UInt8)) p_.Hints a1 c1 a2 c2 a204 c205 2003 a2 c2 hq h1 h2 h203 h2 ⟨by decide, by decide⟩ hAmb) ?_)
    intro v206 a w207 χ208 hE hp hS
    clear h203
    replace hO := hO.mv hE rfl rfl
    replace hD := hD.ev hE rfl
    replace h1 := h1.mv hE rfl
    replace h2 := h2.mv hE rfl
    replace hAmb := hAmb.mv hE rfl
    obtain ⟨a210, c211, hp, h212⟩ := hp
    rw [hgr6] at hp h212
    subst hp
    replace hS := hS.sl ⟨[(16, .f (.func 79) [] []), (17, V (.agg #[.int .i64 p_.Kind, .int .i64 p_.Id, .slice a1 p_.Lits.length c1, .slice a2 p_.Hints.length c2])), (21, Sl a2 p_.Hints c2), (22, Sl a210 r129 c211)], [(3, (106, [I p_.Kind, I p_.Id, Sl a1 p_.Lits c1, Sl a2 p_.Hints c2]))]⟩
    refine andH (Hold.of hS (bks := [3]) kr hD) ?_
    intro hH
    refine only 7 kr (by rfl) (lit (E := 5) (col := 0) (T := (tInt .u8 1)) (vals := [.int .u8 10]) (ys := [10]) T hS kr kr kr kr (by exact ⟨rfl, trivial⟩) rfl kr kr kr kr ?_)
    intro b213 a w214 χ215 hE h216 hN hS
    clear hN
    replace hO := hO.mv hE rfl rfl
    replace hD := hD.ev hE rfl
    replace h1 := h1.mv hE rfl
    replace h2 := h2.mv hE rfl
    replace hAmb := hAmb.mv hE rfl
    replace h212 := h212.mv hE rfl rfl
    replace h216 := h216.rs0
    refine andH (Hold.of hS (bks := [3]) kr hD) ?_
    intro hH
    exact H _ _ ⟨_, a210, c211, (some ⟨b213, 0, none⟩), 1, hS.sl _, hO, hD, hH, h212, h216, h1, h2, hAmb⟩
   refine oneOp (by rfl) (lit (E := 5) (col := 0) (T := (tInt .u8 1)) (vals := [.int .u8 10]) (ys := [10]) T hS kr kr kr kr (by exact ⟨rfl, trivial⟩) rfl kr kr kr kr ?_)
   intro b217 a w218 χ219 hE h220 hN hS
   clear hN
   replace hO := hO.mv hE rfl rfl
   replace hD := hD.ev hE rfl
   replace h1 := h1.mv hE rfl
   replace h2 := h2.mv hE rfl
   replace hAmb := hAmb.mv hE rfl
   replace h203 := h203.mv hE rfl rfl
   replace h220 := h220.rs0
   refine andH (Hold.of hS (bks := [3]) kr hD) ?_
   intro hH
   have hq := hgp6
   refine only 6 kr (by rfl) (callCR (fi := []) (cp := []) hS kr kr hb79 kr kr (k79 _ _ p_ (((out ++ toI r104) ++ [32]) ++ toI ([100, 32] : List UInt8)) p_.Hints a1 c1 a2 c2 a204 c205 2003 a2 c2 hq h1 h2 h203 h2 ⟨by decide, by decide⟩ hAmb) ?_)
   intro v221 a w222 χ223 hE hp hS
   clear h203
   replace hO := hO.mv hE rfl rfl
   replace hD := hD.ev hE rfl
   replace h1 := h1.mv hE rfl
   replace h2 := h2.mv hE rfl
   replace hAmb := hAmb.mv hE rfl
   replace h220 := h220.mv hE rfl
   obtain ⟨a225, c226, hp, h227⟩ := hp
   rw [hgr6] at hp h227
   subst hp
   replace hS := hS.sl ⟨[(16, .f (.func 79) [] []), (17, V (.agg #[.int .i64 p_.Kind, .int .i64 p_.Id, .slice a1 p_.Lits.length c1, .slice a2 p_.Hints.length c2])), (21, Sl a2 p_.Hints c2), (23, Sl (some ⟨b217, 0, none⟩) [10] 1), (22, Sl a225 r129 c226)], [(3, (106, [I p_.Kind, I p_.Id, Sl a1 p_.Lits c1, Sl a2 p_.Hints c2]))]⟩
   refine andH (Hold.of hS (bks := [3]) kr hD) ?_
   intro hH
   exact H _ _ ⟨_, a225, c226, (some ⟨b217, 0, none⟩), 1, hS.sl _, hO, hD, hH, h227, h220, h1, h2, hAmb⟩
  refine oneOp (by rfl) (lit (E := 5) (col := 0) (T := (tInt .u8 1)) (vals := [.int .u8 10]) (ys := [10]) T hS kr kr kr kr (by exact ⟨rfl, trivial⟩) rfl kr kr kr kr ?_)
  intro b228 a w229 χ230 hE h231 hN hS
  clear hN
  replace hO := hO.mv hE rfl rfl
  replace hD := hD.ev hE rfl
  replace h1 := h1.mv hE rfl
  replace h2 := h2.mv hE rfl
  replace hAmb := hAmb.mv hE rfl
  replace h116 := h116.mv hE rfl rfl
  replace h231 := h231.rs0
  refine andH (Hold.of hS (bks := [3]) kr hD) ?_
  intro hH
  have hq := hgq3
  refine only 3 kr (by rfl) (appendS (E := 5) (col := 2003) (xs := (out ++ toI r104) ++ [32]) (s := ([100, 32] : List UInt8)) T hS kr kr kr kr h116 kr kr kr kr hq ?_)
  intro a235 c236 a w232 χ233 hE h234 hS
  clear h116
  replace hO := hO.mv hE rfl rfl
  replace hD := hD.ev hE rfl
  replace h1 := h1.mv hE rfl
  replace h2 := h2.mv hE rfl
  replace hAmb := hAmb.mv hE rfl
  replace h231 := h231.mv hE rfl
  replace hS := hS.sl ⟨[(16, .f (.func 79) [] []), (17, V (.agg #[.int .i64 p_.Kind, .int .i64 p_.Id, .slice a1 p_.Lits.length c1, .slice a2 p_.Hints.length c2])), (21, Sl a2 p_.Hints c2), (23, Sl (some ⟨b228, 0, none⟩) [10] 1), (19, Sl a235 (((out ++ toI r104) ++ [32]) ++ toI ([100, 32] : List UInt8)) c236)], [(3, (106, [I p_.Kind, I p_.Id, Sl a1 p_.Lits c1, Sl a2 p_.Hints c2]))]⟩
  refine andH (Hold.of hS (bks := [3]) kr hD) ?_
  intro hH
  have hq := hgp6
  refine only 6 kr (by rfl) (callCR (fi := []) (cp := []) hS kr kr hb79 kr kr (k79 _ _ p_ (((out ++ toI r104) ++ [32]) ++ toI ([100, 32] : List UInt8)) p_.Hints a1 c1 a2 c2 a235 c236 2003 a2 c2 hq h1 h2 h234 h2 ⟨by decide, by decide⟩ hAmb) ?_)
  intro v237 a w238 χ239 hE hp hS
  clear h234
  replace hO := hO.mv hE rfl rfl
  replace hD := hD.ev hE rfl
  replace h1 := h1.mv hE rfl
  replace h2 := h2.mv hE rfl
  replace hAmb := hAmb.mv hE rfl
  replace h231 := h231.mv hE rfl
  obtain ⟨a241, c242, hp, h243⟩ := hp
  rw [hgr6] at hp h243
  subst hp
  replace hS := hS.sl ⟨[(16, .f (.func 79) [] []), (17, V (.agg #[.int .i64 p_.Kind, .int .i64 p_.Id, .slice a1 p_.Lits.length c1, .slice a2 p_.Hints.length c2])), (21, Sl a2 p_.Hints c2), (23, Sl (some ⟨b228, 0, none⟩) [10] 1), (22, Sl a241 r129 c242)], [(3, (106, [I p_.Kind, I p_.Id, Sl a1 p_.Lits c1, Sl a2 p_.Hints c2]))]⟩
  refine andH (Hold.of hS (bks := [3]) kr hD) ?_
  intro hH
  exact H _ _ ⟨_, a241, c242, (some ⟨b228, 0, none⟩), 1, hS.sl _, hO, hD, hH, h243, h231, h1, h2, hAmb⟩
 replace hm := hm.2 hb
 refine wskip ?_
 refine regO ?_
 refine oP T hS 5 ⟨[(1, Sl a117 ((out ++ toI r104) ++ [32]) c118), (2, Pt 3 0), (5, .f (.func 79) [] []), (25, .f (.func 79) [] []), (26, V (.agg #[.int .i64 p_.Kind, .int .i64 p_.Id, .slice a1 p_.Lits.length c1, .slice a2 p_.Hints.length c2])), (27, Sl a117 ((out ++ toI r104) ++ [32]) c118), (29, Sl a1 p_.Lits c1)], [(3, (106, [I p_.Kind, I p_.Id, Sl a1 p_.Lits c1, Sl a2 p_.Hints c2]))]⟩ fun a hS => ?_
 obtain ⟨hq, hm⟩ := hm
 refine op1 (callCR (fi := []) (cp := []) hS kr kr hb79 kr kr (k79 _ _ p_ ((out ++ toI r104) ++ [32]) p_.Lits a1 c1 a2 c2 a117 c118 2003 a1 c1 hq h1 h2 h116 h1 ⟨by decide, by decide⟩ hAmb) ?_)
 intro v251 a w252 χ253 hE hp hS
 clear h116
 replace hO := hO.mv hE rfl rfl
 replace h1 := h1.mv hE rfl
 replace h2 := h2.mv hE rfl
 replace hAmb := hAmb.mv hE rfl
 obtain ⟨a255, c256, hp, h257⟩ := hp
 obtain ⟨r254, hr⟩ : ∃ r, proof_printed_numbers p_ ((out ++ toI r104) ++ [32]) p_.Lits = r := ⟨_, rfl⟩
 replace hm := hm r254 hr
 rw [hr] at hp h257
 clear hr
 subst hp
 replace hm := hm (h257.sm kr)
 refine op1 (lit (E := 5) (col := 0) (T := (tInt .u8 1)) (vals := [.int .u8 32]) (ys := [32]) T hS kr kr kr kr (by exact ⟨rfl, trivial⟩) rfl kr kr kr kr ?_)
 intro b258 a w259 χ260 hE h261 hN hS
 clear hN
 replace hO := hO.mv hE rfl rfl
 replace h1 := h1.mv hE rfl
 replace h2 := h2.mv hE rfl
 replace hAmb := hAmb.mv hE rfl
 replace h257 := h257.mv hE rfl rfl
 replace h261 := h261.rs0
 obtain ⟨hq, hm⟩ := hm
 obtain ⟨news, hN⟩ := h261.src
 refine op1 (append (E := 5) (T := (tInt .u8 1)) (col := 2003) (xs := r254) T hS kr kr kr kr h257 hN kr kr kr kr hq ?_)
 intro a265 c266 a w262 χ263 hE h264 hS
 clear hq hN
 clear h257
 replace hO := hO.mv hE rfl rfl
 replace h1 := h1.mv hE rfl
 replace h2 := h2.mv hE rfl
 replace hAmb := hAmb.mv hE rfl
 replace h261 := h261.mv hE rfl
 refine eP T hS ⟨[(1, Sl a265 (r254 ++ [32]) c266), (2, Pt 3 0), (5, .f (.func 79) [] [])], [(3, (106, [I p_.Kind, I p_.Id, Sl a1 p_.Lits c1, Sl a2 p_.Hints c2]))]⟩ fun a hS => ?_
 refine regO ?_
 refine oP T hS 5 ⟨[(33, .f (.func 79) [] []), (34, V (.agg #[.int .i64 p_.Kind, .int .i64 p_.Id, .slice a1 p_.Lits.length c1, .slice a2 p_.Hints.length c2])), (35, Sl a265 (r254 ++ [32]) c266), (37, Sl a2 p_.Hints c2)], []⟩ fun a hS => ?_
 obtain ⟨hq, hm⟩ := hm
 refine op1 (callCR (fi := []) (cp := []) hS kr kr hb79 kr kr (k79 _ _ p_ (r254 ++ [32]) p_.Hints a1 c1 a2 c2 a265 c266 2003 a2 c2 hq h1 h2 h264 h2 ⟨by decide, by decide⟩ hAmb) ?_)
 intro v267 a w268 χ269 hE hp hS
 clear h264
 replace hO := hO.mv hE rfl rfl
 replace h1 := h1.mv hE rfl
 replace h2 := h2.mv hE rfl
 replace hAmb := hAmb.mv hE rfl
 obtain ⟨a271, c272, hp, h273⟩ := hp
 obtain ⟨r270, hr⟩ : ∃ r, proof_printed_numbers p_ (r254 ++ [32]) p_.Hints = r := ⟨_, rfl⟩
 replace hm := hm r270 hr
 rw [hr] at hp h273
 clear hr
 subst hp
 replace hm := hm (h273.sm kr)
 refine op1 (lit (E := 5) (col := 0) (T := (tInt .u8 1)) (vals := [.int .u8 10]) (ys := [10]) T hS kr kr kr kr (by exact ⟨rfl, trivial⟩) rfl kr kr kr kr ?_)
 intro b274 a w275 χ276 hE h277 hN hS
 clear hN
 replace hO := hO.mv hE rfl rfl
 replace h1 := h1.mv hE rfl
 replace h2 := h2.mv hE rfl
 replace hAmb := hAmb.mv hE rfl
 replace h273 := h273.mv hE rfl rfl
 replace h277 := h277.rs0
 obtain ⟨hq, hm⟩ := hm
 obtain ⟨news, hN⟩ := h277.src
 refine op1 (append (E := 5) (T := (tInt .u8 1)) (col := 2003) (xs := r270) T hS kr kr kr kr h273 hN kr kr kr kr hq ?_)
 intro a281 c282 a w278 χ279 hE h280 hS
 clear hq hN
 clear h273
 replace hO := hO.mv hE rfl rfl
 replace h1 := h1.mv hE rfl
 replace h2 := h2.mv hE rfl
 replace hAmb := hAmb.mv hE rfl
 replace h277 := h277.mv hE rfl
 refine eP T hS ⟨[(4, Sl a281 (r270 ++ [10]) c282)], []⟩ fun a hS => ?_
 refine wret ?_
 exact finR T hS hO (fun c h => f0of_zero kr h) (fun c h => f0of_else (l := [(m3, 2003)]) h) (f1of [(m3, 2003)]) rfl (r := [.slice a281 (r270 ++ [10]).length c282]) kr (fun χ' hM hC => ⟨(r270 ++ [10]), hm, a281, c282, rfl, (OS.out (f := (f1of [(m3, 2003)])) h280 hM hC kr)⟩)
theorem C56 (k55 : S55) (k79 : S79) (v : ∀ (p_ : Api_Step) (out : List Int), preLine p_ out → VC56 p_ out (fun r => r = proof_printed_line p_ out)) : S56 := by
 intro w χ p_ out a1 c1 a2 c2 a3 c3 m3   hp h1 h2 h3 hA hAmb
 refine (W56 k55 k79 w χ p_ out a1 c1 a2 c2 a3 c3 m3   _ (v p_ out hp) h1 h2 h3 hA hAmb).mono ?_
 rintro _ _ _ _ ⟨r, rfl, h⟩
 exact h
theorem W33 (k36 : S36) (k56 : S56) (w0 : World) (χ0 : Nat → Nat) (l_ : List Api_Step) (a1 : Option Addr) (c1 : Nat) (Q : (List UInt8) × Int → Prop) (hm : VC33 l_ Q) (h1 : RS tApi_Step w0 χ0 a1 l_ c1) (hAmb : Amb w0 χ0) :
  Ret Tryz.prog 33 #[.slice a1 l_.length c1] xnone w0 χ0 (fun w χ' v => ∃ r, Q r ∧ v = .tuple #[.string (bs r.1), .int .i64 r.2]) := by
 unfold VC33 at hm
 replace hm := hm (h1.sm kr)
 refine enter Tryz.func33 rfl (vals := [.slice a1 l_.length c1]) kr ?_
 intro ρ a hS hO hM
 replace h1 := h1.m0 hM
 replace hAmb := hAmb.m0 hM
 clear hM
 refine rP T hS ⟨[(0, Sl a1 l_ c1)], []⟩ fun a hS => ?_
 refine wseq ?_
 refine regO ?_
 refine oP T hS 1 ⟨[(0, Sl a1 l_ c1), (10, Sl a1 l_ c1)], []⟩ fun a hS => ?_
 refine op1 (call hS kr kr hb36 kr (fun _ _ => rfl) (k36 _ _ l_ a1 c1 h1) ?_)
 intro v101 a w102 χ103 hE hp hS
 replace hO := hO.mv hE rfl rfl
 replace h1 := h1.mv hE rfl
 replace hAmb := hAmb.mv hE rfl
 obtain ⟨r104, hr⟩ : ∃ r, proof_Check l_ = r := ⟨_, rfl⟩
 replace hm := hm r104 hr
 rw [hr] at hp
 clear hr
 subst hp
 refine eP T hS ⟨[(0, Sl a1 l_ c1), (5, I r104.2)], []⟩ fun a hS => ?_
 refine rP T hS ⟨[(0, Sl a1 l_ c1), (5, I r104.2), (15, B (r104.2 != 0))], []⟩ fun a hS => ?_
 refine wcond hS (b := (r104.2 != 0)) kr (fun hb => ?_) (fun hb => ?_)
 ·replace hm := hm.1 hb
  refine rP T hS ⟨[(2, Z ([] : List UInt8)), (3, I r104.2)], []⟩ fun a hS => ?_
  refine wret ?_
  exact fin T hS hO (fun c => c) rfl (r := [.string (bs ([] : List UInt8)), .int .i64 r104.2]) kr (fun χ' hM hC => ⟨(([] : List UInt8), r104.2), hm, rfl⟩)
 replace hm := hm.2 hb
 refine wskip ?_
 refine rP T hS ⟨[(0, Sl a1 l_ c1), (6, V (.slice none 0 0))], []⟩ fun a hS => ?_
 refine wcut (fun a w => ∃ (ρ : Nat → Nat) (χ : Nat → Nat) (out_105 : List Int) (a106 : Option Addr) (c107 : Nat), VC33_J1 Q out_105 ∧ St Tryz.f33.ntmps ⟨[(6, Sl a106 out_105 c107)], []⟩ ρ a w χ ∧ Old w0 χ0 w χ ∧ OS (tInt .u8 1) 5 w χ 1007 a106 out_105 c107 ∧ Amb w χ) ?_ ?_
 ·refine rP T hS ⟨[(6, V (.slice none 0 0)), (17, Sl a1 l_ c1), (18, I (lN l_)), (19, I 0)], []⟩ fun a hS => ?_
  refine wblock ?_
  obtain ⟨I1, μ1, hm0, hm⟩ := hm
  refine wloop (σ := (List Int) × Int) (fun s a w => ∃ (ρ : Nat → Nat) (χ : Nat → Nat) (a110 : Option Addr) (c111 : Nat), I1 s.1 s.2 ∧ St Tryz.f33.ntmps ⟨[(6, Sl a110 s.1 c111), (17, Sl a1 l_ c1), (18, I (lN l_)), (19, I s.2)], []⟩ ρ a w χ ∧ Old w0 χ0 w χ ∧ OS (tInt .u8 1) 5 w χ 1007 a110 s.1 c111 ∧ RS tApi_Step w χ a1 l_ c1 ∧ Amb w χ) (fun s => μ1 s.1 s.2) (⟨[], 0⟩) ?_ ?_
  ·exact ⟨ρ, _, none, 0, hm0, hS.sl _, hO, (OS.nil _ _ _ _ _), h1, hAmb⟩
  rintro ⟨out_109, x_114⟩ a w134 ⟨ρ, χ133, a110, c111, hI, hS, hO, h112, h113, hAmb⟩
  replace hm := hm out_109 x_114 hI
  clear hI hm0
  refine rP T hS ⟨[(6, Sl a110 out_109 c111), (17, Sl a1 l_ c1), (18, I (lN l_)), (19, I x_114), (20, B (decide (x_114 < (lN l_))))], []⟩ fun a hS => ?_
  refine wseq ?_
  refine wcond hS (b := decide (x_114 < (lN l_))) kr (fun hb => ?_) (fun hb => ?_)
  ·replace hm := hm.1 hb
   refine wskip (wseq ?_)
   refine wblock ?_
   refine regO ?_
   obtain ⟨hq, hm⟩ := hm
   refine op1 (index (e := 98) (k := .i64) T hS kr kr kr kr h113 kr kr hq.1 hq.2 ?_)
   intro A115 a h116 hS
   refine op1 (loadA T hS kr kr kr h116 kr kr ?_)
   intro v117 a hv hS
   obtain ⟨a118, c119, a121, c122, hv, h120, h123⟩ := hv
   subst hv
   replace hm := hm (h120.sm kr)
   replace hm := hm (h123.sm kr)
   refine eM T hS ⟨[(6, Sl a110 out_109 c111), (8, Pt 9 0), (17, Sl a1 l_ c1), (18, I (lN l_)), (19, I x_114)], [(9, (98, [I ((gi l_ x_114).Kind), I ((gi l_ x_114).Id), Sl a118 ((gi l_ x_114).Lits) c119, Sl a121 ((gi l_ x_114).Hints) c122]))]⟩ fun ρ a w131 χ132 hS hE hr => ?_
   replace hO := hO.mv hE rfl rfl
   replace h112 := h112.mv hE rfl rfl
   replace h113 := h113.mv hE rfl
   replace hAmb := hAmb.mv hE rfl
   replace h120 := h120.mv hE rfl
   replace h123 := h123.mv hE rfl
   clear hE hr
   refine regO ?_
   refine oP T hS 2 ⟨[(6, Sl a110 out_109 c111), (17, Sl a1 l_ c1), (18, I (lN l_)), (19, I x_114), (23, V (.agg #[.int .i64 ((gi l_ x_114).Kind), .int .i64 ((gi l_ x_114).Id), .slice a118 ((gi l_ x_114).Lits).length c119, .slice a121 ((gi l_ x_114).Hints).length c122])), (24, Sl a110 out_109 c111)], []⟩ fun a hS => ?_
   obtain ⟨hq, hm⟩ := hm
   refine op1 (callR hS kr kr hb56 kr (k56 _ _ (⟨(gi l_ x_114).Kind, (gi l_ x_114).Id, (gi l_ x_114).Lits, (gi l_ x_114).Hints⟩ : Api_Step) out_109 a118 c119 a121 c122 a110 c111 1007 hq h120 h123 h112 ⟨by decide, by decide⟩ hAmb) ?_)
   intro v124 a w125 χ126 hE hp hS
   clear h112
   replace hO := hO.mv hE rfl rfl
   replace h113 := h113.mv hE rfl
   replace hAmb := hAmb.mv hE rfl
   replace h120 := h120.mv hE rfl
   replace h123 := h123.mv hE rfl
   obtain ⟨a128, c129, hp, h130⟩ := hp
   obtain ⟨r127, hr⟩ : ∃ r, proof_printed_line (⟨(gi l_ x_114).Kind, (gi l_ x_114).Id, (gi l_ x_114).Lits, (gi l_ x_114).Hints⟩ : Api_Step) out_109 = r := ⟨_, rfl⟩
   replace hm := hm r127 hr
   rw [hr] at hp h130
   clear hr
   subst hp
   replace hm := hm (h130.sm kr)
   refine eP T hS ⟨[(6, Sl a128 r127 c129), (17, Sl a1 l_ c1), (18, I (lN l_)), (19, I x_114)], []⟩ fun a hS => ?_
   refine rP T hS ⟨[(6, Sl a128 r127 c129), (17, Sl a1 l_ c1), (18, I (lN l_)), (19, I x_114), (28, B (decide ((lN r127) > 1000000)))], []⟩ fun a hS => ?_
   refine wcond hS (b := decide ((lN r127) > 1000000)) kr (fun hb => ?_) (fun hb => ?_)
   ·replace hm := hm.1 hb
    refine rP T hS ⟨[(2, Z ([] : List UInt8)), (3, I 3)], []⟩ fun a hS => ?_
    refine wret ?_
    exact fin T hS hO (fun c => c) rfl (r := [.string (bs ([] : List UInt8)), .int .i64 3]) kr (fun χ' hM hC => ⟨(([] : List UInt8), 3), hm, rfl⟩)
   replace hm := hm.2 hb
   refine wskip ?_
   refine region (eP T hS ⟨[(6, Sl a128 r127 c129), (17, Sl a1 l_ c1), (18, I (lN l_)), (19, I (wR (x_114 + 1)))], []⟩ fun a hS => ?_)
   exact ⟨⟨r127, wR (x_114 + 1)⟩, ⟨ρ, _, a128, c129, hm.1, hS.sl _, hO, h130, h113, hAmb⟩, hm.2⟩
  replace hm := hm.2 hb
  refine wexit (by rfl) ?_
  exact ⟨ρ, _, out_109, a110, c111, hm, hS.sl _, hO, h112, hAmb⟩
 rintro a w136 ⟨ρ, χ135, out_105, a106, c107, hm, hS, hO, h108, hAmb⟩
 unfold VC33_J1 at hm
 refine regO ?_
 refine oP T hS 1 ⟨[(30, Sl a106 out_105 c107)], []⟩ fun a hS => ?_
 obtain ⟨news, hN⟩ := h108.src
 refine op1 (cvtS (b := 1) (ys := out_105) T hS kr kr kr kr kr hN ?_)
 intro a hS
 clear hN
 refine eP T hS ⟨[(2, Z (ofBytes out_105)), (3, I 0)], []⟩ fun a hS => ?_
 refine wret ?_
 exact fin T hS hO (fun c => c) rfl (r := [.string (bs (ofBytes out_105)), .int .i64 0]) kr (fun χ' hM hC => ⟨((ofBytes out_105), 0), hm, rfl⟩)
theorem C33 (k36 : S36) (k56 : S56) (v : ∀ (l_ : List Api_Step), VC33 l_ (fun r => r = proof_Print l_)) : S33 := by
 intro w χ l_ a1 c1   h1 hAmb
 refine (W33 k36 k56 w χ l_ a1 c1   _ (v l_) h1 hAmb).mono ?_
 rintro _ _ _ _ ⟨r, rfl, h⟩
 exact h
theorem W66 (k67 : S67) (w0 : World) (χ0 : Nat → Nat) (x_ : Api_Step) (y_ : Api_Step) (a1 : Option Addr) (c1 : Nat) (a2 : Option Addr) (c2 : Nat) (a3 : Option Addr) (c3 : Nat) (a4 : Option Addr) (c4 : Nat) (Q : Bool → Prop) (hm : VC66 x_ y_ Q) (h1 : RS tI w0 χ0 a1 x_.Lits c1) (h2 : RS tI w0 χ0 a2 x_.Hints c2) (h3 : RS tI w0 χ0 a3 y_.Lits c3) (h4 : RS tI w0 χ0 a4 y_.Hints c4) :
  Ret Tryz.prog 66 #[.agg #[.int .i64 x_.Kind, .int .i64 x_.Id, .slice a1 x_.Lits.length c1, .slice a2 x_.Hints.length c2], .agg #[.int .i64 y_.Kind, .int .i64 y_.Id, .slice a3 y_.Lits.length c3, .slice a4 y_.Hints.length c4]] xnone w0 χ0 (fun w χ' v => ∃ r, Q r ∧ v = .bool r) := by
 unfold VC66 at hm
 replace hm := hm (h1.sm kr)
 replace hm := hm (h2.sm kr)
 replace hm := hm (h3.sm kr)
 replace hm := hm (h4.sm kr)
 refine enter Tryz.func66 rfl (vals := [.agg #[.int .i64 x_.Kind, .int .i64 x_.Id, .slice a1 x_.Lits.length c1, .slice a2 x_.Hints.length c2], .agg #[.int .i64 y_.Kind, .int .i64 y_.Id, .slice a3 y_.Lits.length c3, .slice a4 y_.Hints.length c4]]) kr ?_
 intro ρ a hS hO hM
 replace h1 := h1.m0 hM
 replace h2 := h2.m0 hM
 replace h3 := h3.m0 hM
 replace h4 := h4.m0 hM
 clear hM
 refine rM T hS ⟨[(2, Pt 3 0), (3, Pt 4 0)], [(3, (98, [I x_.Kind, I x_.Id, Sl a1 x_.Lits c1, Sl a2 x_.Hints c2])), (4, (98, [I y_.Kind, I y_.Id, Sl a3 y_.Lits c3, Sl a4 y_.Hints c4]))]⟩ fun ρ a w109 χ110 hS hE hr => ?_
 replace hO := hO.mv hE rfl rfl
 replace h1 := h1.mv hE rfl
 replace h2 := h2.mv hE rfl
 replace h3 := h3.mv hE rfl
 replace h4 := h4.mv hE rfl
 clear hE hr
 refine regO ?_
 refine oP T hS 13 ⟨[(2, Pt 3 0), (3, Pt 4 0), (17, B ((x_.Kind == y_.Kind) && (x_.Id == y_.Id)))], [(3, (98, [I x_.Kind, I x_.Id, Sl a1 x_.Lits c1, Sl a2 x_.Hints c2])), (4, (98, [I y_.Kind, I y_.Id, Sl a3 y_.Lits c3, Sl a4 y_.Hints c4]))]⟩ (sp := [10]) fun a hS => ?_
 rcases Bool.eq_false_or_eq_true ((x_.Kind == y_.Kind) && (x_.Id == y_.Id)) with hb | hb
 ·replace hS := hS.lit (t := 17) kr hb
  replace hm := hm.1 hb
  refine oP T hS 4 ⟨[(2, Pt 3 0), (3, Pt 4 0), (17, B true), (19, Sl a1 x_.Lits c1), (21, Sl a3 y_.Lits c3)], [(3, (98, [I x_.Kind, I x_.Id, Sl a1 x_.Lits c1, Sl a2 x_.Hints c2])), (4, (98, [I y_.Kind, I y_.Id, Sl a3 y_.Lits c3, Sl a4 y_.Hints c4]))]⟩ fun a hS => ?_
  refine op1 (call hS kr kr hb67 kr (fun _ _ => rfl) (k67 _ _ x_.Lits y_.Lits a1 c1 a3 c3 h1 h3) ?_)
  intro v101 a w102 χ103 hE hp hS
  replace hO := hO.mv hE rfl rfl
  replace h1 := h1.mv hE rfl
  replace h2 := h2.mv hE rfl
  replace h3 := h3.mv hE rfl
  replace h4 := h4.mv hE rfl
  obtain ⟨r104, hr⟩ : ∃ r, slices_Equal_int_int x_.Lits y_.Lits = r := ⟨_, rfl⟩
  replace hm := hm r104 hr
  rw [hr] at hp
  clear hr
  subst hp
  refine oP T hS 2 ⟨[(2, Pt 3 0), (3, Pt 4 0), (24, B r104)], [(3, (98, [I x_.Kind, I x_.Id, Sl a1 x_.Lits c1, Sl a2 x_.Hints c2])), (4, (98, [I y_.Kind, I y_.Id, Sl a3 y_.Lits c3, Sl a4 y_.Hints c4]))]⟩ fun a hS => ?_
  rcases Bool.eq_false_or_eq_true r104 with hb | hb
  ·replace hS := hS.lit (t := 24) kr hb
   replace hm := hm.1 hb
   refine oP T hS 4 ⟨[(24, B true), (26, Sl a2 x_.Hints c2), (28, Sl a4 y_.Hints c4)], []⟩ fun a hS => ?_
   refine op1 (call hS kr kr hb67 kr (fun _ _ => rfl) (k67 _ _ x_.Hints y_.Hints a2 c2 a4 c4 h2 h4) ?_)
   intro v105 a w106 χ107 hE hp hS
   replace hO := hO.mv hE rfl rfl
   replace h2 := h2.mv hE rfl
   replace h4 := h4.mv hE rfl
   obtain ⟨r108, hr⟩ : ∃ r, slices_Equal_int_int x_.Hints y_.Hints = r := ⟨_, rfl⟩
   replace hm := hm r108 hr
   rw [hr] at hp
   clear hr
   subst hp
   refine eP T hS ⟨[(4, B r108)], []⟩ fun a hS => ?_
   refine wret ?_
   exact fin T hS hO (fun c => c) rfl (r := [.bool r108]) kr (fun χ' hM hC => ⟨r108, hm, rfl⟩)
  replace hS := hS.lit (t := 24) kr hb
  replace hm := hm.2 hb
  refine eP T hS ⟨[(4, B false)], []⟩ fun a hS => ?_
  refine wret ?_
  exact fin T hS hO (fun c => c) rfl (r := [.bool false]) kr (fun χ' hM hC => ⟨false, hm, rfl⟩)
 replace hS := hS.lit (t := 17) kr hb
 replace hm := hm.2 hb
 refine eP T hS ⟨[(4, B false)], []⟩ fun a hS => ?_
 refine wret ?_
 exact fin T hS hO (fun c => c) rfl (r := [.bool false]) kr (fun χ' hM hC => ⟨false, hm, rfl⟩)
theorem C66 (k67 : S67) (v : ∀ (x_ : Api_Step) (y_ : Api_Step), VC66 x_ y_ (fun r => r = proof_Same_1 x_ y_)) : S66 := by
 intro w χ x_ y_ a1 c1 a2 c2 a3 c3 a4 c4   h1 h2 h3 h4
 refine (W66 k67 w χ x_ y_ a1 c1 a2 c2 a3 c3 a4 c4   _ (v x_ y_) h1 h2 h3 h4).mono ?_
 rintro _ _ _ _ ⟨r, rfl, h⟩
 exact h
end Go.Proofs.YtkgcdoeldilhaaaGreatDoor
