/- Walks: each function returns what its condition asks. Condition: the contracts of its callees, handed in. -/
import Derived.Test.YtkgcdoeldilhaaaGreatDoorNWalksS
set_option linter.all false
namespace Go.Proofs.YtkgcdoeldilhaaaGreatDoor
open Go Go.Sv
set_option maxHeartbeats 1000000
theorem W72_62 (k62 : S62) (w0 : World) (χ0 : Nat → Nat) (s_ : List Api_Pick) (cap1 : List (Int × Int)) (a1 : Option Addr) (c1 : Nat) (r2 : Nat) (m2 : Nat) (b1 : Nat) (i1 : Nat) (Q : Int × (List (Int × Int)) → Prop) (hm : VC72_62 s_ cap1 Q) (h1 : RS tApi_Pick w0 χ0 a1 s_ c1) (h2 : OM kI tI false w0 χ0 m2 r2 cap1) (hc1 : Cell w0 χ0 b1 i1 111 [.map (some r2)]) (hA : Apart [i1, m2]) :
  Ret Tryz.prog 72 #[.slice a1 s_.length c1, .func (.func 62) #[] #[.pointer (some ⟨b1, 0, none⟩)]] (pR [i1, m2]) w0 χ0 (fun w χ' v => ∃ r, Q r ∧ v = .int .i64 r.1 ∧ Cell w χ' b1 i1 111 [.map (some r2)] ∧ OM kI tI false w χ' m2 r2 r.2) := by
 unfold VC72_62 at hm
 replace hm := hm (h1.sm kr)
 refine enterR Tryz.func72 rfl (f0of [(i1, 901), (m2, 2002)]) (fun id => (bif Nat.beq id 901 then b1 else 0)) (args := [Sl a1 s_ c1, .f (.func 62) [] [.p 901 0]]) (bxs := [(901, (111, [V (.map (some r2))]))]) kr rfl (BoxesOK.cons kr (hc1.map (f0of_at 0 hA.1 rfl)) BoxesOK.nil) (f0of_0 (fun q hq => (hA.2 q.1 (List.mem_map.2 ⟨q, hq, rfl⟩)).1)) ?_
 intro a hS hO hM
 have hP : Pin [(901, b1)] (fun id => (bif Nat.beq id 901 then b1 else 0)) := by intro q hq; simp at hq; rcases hq with rfl <;> rfl
 generalize (fun id => (bif Nat.beq id 901 then b1 else 0)) = ρ at hS hP
 clear hc1
 replace h1 := h1.m0 hM
 replace h2 := h2.map (f := f0of [(i1, 901), (m2, 2002)]) (f0of_at 1 hA.1 rfl) hM
 clear hM
 refine rP T hS ⟨[(0, Sl a1 s_ c1), (1, .f (.func 62) [] [.p 901 0])], [(901, (111, [V (.map (some r2))]))]⟩ fun a hS => ?_
 refine wcut (fun a w => ∃ (ρ : Nat → Nat) (χ : Nat → Nat) (x_101 : List (Int × Int)), VC72_62_J1 Q x_101 ∧ St Tryz.f72.ntmps ⟨[], [(901, (111, [V (.map (some r2))]))]⟩ ρ a w χ ∧ OldR (f0of [(i1, 901), (m2, 2002)]) w0 χ0 w χ ∧ Pin [(901, b1)] ρ ∧ OM kI tI false w χ 2002 r2 x_101) ?_ ?_
 ·refine rP T hS ⟨[(0, Sl a1 s_ c1), (1, .f (.func 62) [] [.p 901 0]), (7, I (lN s_)), (8, I 0)], [(901, (111, [V (.map (some r2))]))]⟩ fun a hS => ?_
  refine wblock ?_
  obtain ⟨I1, μ1, hm0, hm⟩ := hm
  refine wloop (σ := Int × (List (Int × Int))) (fun s a w => ∃ (ρ : Nat → Nat) (χ : Nat → Nat), I1 s.1 s.2 ∧ St Tryz.f72.ntmps ⟨[(0, Sl a1 s_ c1), (1, .f (.func 62) [] [.p 901 0]), (7, I (lN s_)), (8, I s.1)], [(901, (111, [V (.map (some r2))]))]⟩ ρ a w χ ∧ OldR (f0of [(i1, 901), (m2, 2002)]) w0 χ0 w χ ∧ Pin [(901, b1)] ρ ∧ RS tApi_Pick w χ a1 s_ c1 ∧ OM kI tI false w χ 2002 r2 s.2) (fun s => μ1 s.1 s.2) (⟨0, cap1⟩) ?_ ?_
  ·exact ⟨ρ, _, hm0, hS.sl _, hO, hP, h1, h2⟩
  rintro ⟨x_104, x_105⟩ a w117 ⟨ρ, χ116, hI, hS, hO, hP, h103, h106⟩
  replace hm := hm x_104 x_105 hI
  clear hI hm0
  refine rP T hS ⟨[(0, Sl a1 s_ c1), (1, .f (.func 62) [] [.p 901 0]), (7, I (lN s_)), (8, I x_104), (9, B (decide (x_104 < (lN s_))))], [(901, (111, [V (.map (some r2))]))]⟩ fun a hS => ?_
  refine wseq ?_
  refine wcond hS (b := decide (x_104 < (lN s_))) kr (fun hb => ?_) (fun hb => ?_)
  ·replace hm := hm.1 hb
   refine wskip (wseq ?_)
   refine wblock ?_
   refine rP T hS ⟨[(0, Sl a1 s_ c1), (1, .f (.func 62) [] [.p 901 0]), (5, I x_104), (7, I (lN s_)), (8, I x_104)], [(901, (111, [V (.map (some r2))]))]⟩ fun a hS => ?_
   refine regO ?_
   refine oP T hS 3 ⟨[(0, Sl a1 s_ c1), (1, .f (.func 62) [] [.p 901 0]), (5, I x_104), (7, I (lN s_)), (8, I x_104), (11, .f (.func 62) [] [.p 901 0]), (12, Sl a1 s_ c1), (13, I x_104)], [(901, (111, [V (.map (some r2))]))]⟩ fun a hS => ?_
   obtain ⟨hq, hm⟩ := hm
   refine op1 (index (e := 44) (k := .i64) T hS kr kr kr kr h103 kr kr hq.1 hq.2 ?_)
   intro A107 a h108 hS
   refine op1 (loadA T hS kr kr kr h108 kr kr ?_)
   intro v109 a hv hS
   subst hv
   obtain ⟨hq, hm⟩ := hm
   refine op1 (callCR (fi := []) (cp := [.p 901 0]) hS kr kr hb62 kr kr (k62 _ _ (gi s_ x_104) x_105 r2 2002 (ρ 901) 901 hq h106 (hS.cell (id := 901) (t := 111) (cs := [V (.map (some r2))]) kr) ⟨by decide, by decide⟩) ?_)
   intro v110 a w111 χ112 hE hp hS
   clear h106
   replace hO := hO.mv hE rfl rfl
   replace h103 := h103.mv hE rfl
   replace h108 := h108.mv hE rfl
   obtain ⟨hp, hc115, h114⟩ := hp
   obtain ⟨r113, hr⟩ : ∃ r, verdict_picked_1 (gi s_ x_104) x_105 = r := ⟨_, rfl⟩
   replace hm := hm r113 hr
   rw [hr] at hp h114
   clear hr
   subst hp
   replace hS := hS.addbox (id := 901) (t := 111) (cs := [V (.map (some r2))]) kr hc115
   clear hc115
   refine doneK ?_
   refine wcond hS (b := r113.1) kr (fun hb => ?_) (fun hb => ?_)
   ·replace hm := hm.1 hb
    refine rP T hS ⟨[(4, I x_104)], [(901, (111, [V (.map (some r2))]))]⟩ fun a hS => ?_
    refine wret ?_
    exact finR T hS hO (fun c h => f0of_zero kr h) (fun c h => f0of_else (l := [(i1, 901), (m2, 2002)]) h) (f1of [(i1, 901), (m2, 2002)]) rfl (r := [.int .i64 x_104]) kr (fun χ' hM hC => ⟨(x_104, r113.2), hm, rfl, ((hS.cell (id := 901) (t := 111) (cs := [V (.map (some r2))]) kr).out (f := (f1of [(i1, 901), (m2, 2002)])) hC kr kr (hP.at 0 rfl)), (h114.out (f := (f1of [(i1, 901), (m2, 2002)])) hM hC kr kr)⟩)
   replace hm := hm.2 hb
   refine wskip ?_
   refine region (eP T hS ⟨[(0, Sl a1 s_ c1), (1, .f (.func 62) [] [.p 901 0]), (7, I (lN s_)), (8, I (wR (x_104 + 1)))], [(901, (111, [V (.map (some r2))]))]⟩ fun a hS => ?_)
   exact ⟨⟨wR (x_104 + 1), r113.2⟩, ⟨ρ, _, hm.1, hS.sl _, hO, hP, h103, h114⟩, hm.2⟩
  replace hm := hm.2 hb
  refine wexit (by rfl) ?_
  exact ⟨ρ, _, x_105, hm, hS.sl _, hO, hP, h106⟩
 rintro a w119 ⟨ρ, χ118, x_101, hm, hS, hO, hP, h102⟩
 unfold VC72_62_J1 at hm
 refine rP T hS ⟨[(4, I (-1))], [(901, (111, [V (.map (some r2))]))]⟩ fun a hS => ?_
 refine wret ?_
 exact finR T hS hO (fun c h => f0of_zero kr h) (fun c h => f0of_else (l := [(i1, 901), (m2, 2002)]) h) (f1of [(i1, 901), (m2, 2002)]) rfl (r := [.int .i64 (-1)]) kr (fun χ' hM hC => ⟨((-1), x_101), hm, rfl, ((hS.cell (id := 901) (t := 111) (cs := [V (.map (some r2))]) kr).out (f := (f1of [(i1, 901), (m2, 2002)])) hC kr kr (hP.at 0 rfl)), (h102.out (f := (f1of [(i1, 901), (m2, 2002)])) hM hC kr kr)⟩)
theorem C72_62 (k62 : S62) (v : ∀ (s_ : List Api_Pick) (cap1 : List (Int × Int)), prePkI s_ cap1 → VC72_62 s_ cap1 (fun r => r = slices_IndexFunc_api_Pick_api_Pick_verdict_picked_1 s_ cap1)) : S72_62 := by
 intro w χ s_ cap1 a1 c1 r2 m2  b1 i1 hp h1 h2 hc1 hA
 refine (W72_62 k62 w χ s_ cap1 a1 c1 r2 m2  b1 i1 _ (v s_ cap1 hp) h1 h2 hc1 hA).mono ?_
 rintro _ _ _ _ ⟨r, rfl, h⟩
 exact h
theorem W48_62 (k72_62 : S72_62) (w0 : World) (χ0 : Nat → Nat) (s_ : List Api_Pick) (cap1 : List (Int × Int)) (a1 : Option Addr) (c1 : Nat) (r2 : Nat) (m2 : Nat) (b1 : Nat) (i1 : Nat) (Q : Bool × (List (Int × Int)) → Prop) (hm : VC48_62 s_ cap1 Q) (h1 : RS tApi_Pick w0 χ0 a1 s_ c1) (h2 : OM kI tI false w0 χ0 m2 r2 cap1) (hc1 : Cell w0 χ0 b1 i1 111 [.map (some r2)]) (hA : Apart [i1, m2]) :
  Ret Tryz.prog 48 #[.slice a1 s_.length c1, .func (.func 62) #[] #[.pointer (some ⟨b1, 0, none⟩)]] (pR [i1, m2]) w0 χ0 (fun w χ' v => ∃ r, Q r ∧ v = .bool r.1 ∧ Cell w χ' b1 i1 111 [.map (some r2)] ∧ OM kI tI false w χ' m2 r2 r.2) := by
 unfold VC48_62 at hm
 replace hm := hm (h1.sm kr)
 refine enterR Tryz.func48 rfl (f0of [(i1, 901), (m2, 2002)]) (fun id => (bif Nat.beq id 901 then b1 else 0)) (args := [Sl a1 s_ c1, .f (.func 62) [] [.p 901 0]]) (bxs := [(901, (111, [V (.map (some r2))]))]) kr rfl (BoxesOK.cons kr (hc1.map (f0of_at 0 hA.1 rfl)) BoxesOK.nil) (f0of_0 (fun q hq => (hA.2 q.1 (List.mem_map.2 ⟨q, hq, rfl⟩)).1)) ?_
 intro a hS hO hM
 have hP : Pin [(901, b1)] (fun id => (bif Nat.beq id 901 then b1 else 0)) := by intro q hq; simp at hq; rcases hq with rfl <;> rfl
 generalize (fun id => (bif Nat.beq id 901 then b1 else 0)) = ρ at hS hP
 clear hc1
 replace h1 := h1.m0 hM
 replace h2 := h2.map (f := f0of [(i1, 901), (m2, 2002)]) (f0of_at 1 hA.1 rfl) hM
 clear hM
 refine rP T hS ⟨[(0, Sl a1 s_ c1), (1, .f (.func 62) [] [.p 901 0])], [(901, (111, [V (.map (some r2))]))]⟩ fun a hS => ?_
 refine regO ?_
 refine oP T hS 2 ⟨[(5, Sl a1 s_ c1), (6, .f (.func 62) [] [.p 901 0])], [(901, (111, [V (.map (some r2))]))]⟩ fun a hS => ?_
 obtain ⟨hq, hm⟩ := hm
 refine op1 (callR hS kr kr hb72 kr (k72_62 _ _ s_ cap1 a1 c1 r2 2002 (ρ 901) 901 hq h1 h2 (hS.cell (id := 901) (t := 111) (cs := [V (.map (some r2))]) kr) ⟨by decide, by decide⟩) ?_)
 intro v101 a w102 χ103 hE hp hS
 clear h2
 replace hO := hO.mv hE rfl rfl
 replace h1 := h1.mv hE rfl
 obtain ⟨hp, hc106, h105⟩ := hp
 obtain ⟨r104, hr⟩ : ∃ r, slices_IndexFunc_api_Pick_api_Pick_verdict_picked_1 s_ cap1 = r := ⟨_, rfl⟩
 replace hm := hm r104 hr
 rw [hr] at hp h105
 clear hr
 subst hp
 replace hS := hS.addbox (id := 901) (t := 111) (cs := [V (.map (some r2))]) kr hc106
 clear hc106
 refine eP T hS ⟨[(4, B (decide (r104.1 ≥ 0)))], [(901, (111, [V (.map (some r2))]))]⟩ fun a hS => ?_
 refine wret ?_
 exact finR T hS hO (fun c h => f0of_zero kr h) (fun c h => f0of_else (l := [(i1, 901), (m2, 2002)]) h) (f1of [(i1, 901), (m2, 2002)]) rfl (r := [.bool (decide (r104.1 ≥ 0))]) kr (fun χ' hM hC => ⟨(decide (r104.1 ≥ 0), r104.2), hm, rfl, ((hS.cell (id := 901) (t := 111) (cs := [V (.map (some r2))]) kr).out (f := (f1of [(i1, 901), (m2, 2002)])) hC kr kr (hP.at 0 rfl)), (h105.out (f := (f1of [(i1, 901), (m2, 2002)])) hM hC kr kr)⟩)
theorem C48_62 (k72_62 : S72_62) (v : ∀ (s_ : List Api_Pick) (cap1 : List (Int × Int)), prePkI s_ cap1 → VC48_62 s_ cap1 (fun r => r = slices_ContainsFunc_api_Pick_api_Pick_verdict_picked_1 s_ cap1)) : S48_62 := by
 intro w χ s_ cap1 a1 c1 r2 m2  b1 i1 hp h1 h2 hc1 hA
 refine (W48_62 k72_62 w χ s_ cap1 a1 c1 r2 m2  b1 i1 _ (v s_ cap1 hp) h1 h2 hc1 hA).mono ?_
 rintro _ _ _ _ ⟨r, rfl, h⟩
 exact h
theorem W38 (k48_62 : S48_62) (w0 : World) (χ0 : Nat → Nat) (l_ : List Api_Pick) (a1 : Option Addr) (c1 : Nat) (Q : Bool → Prop) (hm : VC38 l_ Q) (h1 : RS tApi_Pick w0 χ0 a1 l_ c1) :
  Ret Tryz.prog 38 #[.slice a1 l_.length c1] xnone w0 χ0 (fun w χ' v => ∃ r, Q r ∧ v = .bool r) := by
 unfold VC38 at hm
 replace hm := hm (h1.sm kr)
 refine enter Tryz.func38 rfl (vals := [.slice a1 l_.length c1]) kr ?_
 intro ρ a hS hO hM
 replace h1 := h1.m0 hM
 clear hM
 refine rP T hS ⟨[(0, Sl a1 l_ c1)], []⟩ fun a hS => ?_
 refine regO ?_
 refine op1 (mkmap kI tI false 1006 hS kr kr ?_)
 intro r101 a w102 χ103 hE h104 hS
 replace hO := hO.mv hE rfl rfl
 replace h1 := h1.mv hE rfl
 refine eM T hS ⟨[(0, Sl a1 l_ c1), (3, Pt 4 0)], [(4, (111, [V (.map (some r101))]))]⟩ fun ρ a w111 χ112 hS hE hr => ?_
 replace hO := hO.mv hE rfl rfl
 replace h1 := h1.mv hE rfl
 replace h104 := h104.mv hE rfl rfl
 clear hE hr
 refine rP T hS ⟨[(0, Sl a1 l_ c1), (4, .f (.func 62) [] [.p 4 0])], [(4, (111, [V (.map (some r101))]))]⟩ fun a hS => ?_
 refine regO ?_
 refine oP T hS 4 ⟨[(0, Sl a1 l_ c1), (4, .f (.func 62) [] [.p 4 0]), (10, B (decide ((lN l_) ≤ 64)))], [(4, (111, [V (.map (some r101))]))]⟩ fun a hS => ?_
 rcases Bool.eq_false_or_eq_true (decide ((lN l_) ≤ 64)) with hb | hb
 ·replace hS := hS.lit (t := 10) kr hb
  replace hm := hm.1 hb
  refine oP T hS 2 ⟨[(10, B true), (11, Sl a1 l_ c1), (12, .f (.func 62) [] [.p 4 0])], [(4, (111, [V (.map (some r101))]))]⟩ fun a hS => ?_
  obtain ⟨hq, hm⟩ := hm
  refine op1 (callR hS kr kr hb48 kr (k48_62 _ _ l_ ([] : List (Int × Int)) a1 c1 r101 1006 (ρ 4) 4 hq h1 h104 (hS.cell (id := 4) (t := 111) (cs := [V (.map (some r101))]) kr) ⟨by decide, by decide⟩) ?_)
  intro v105 a w106 χ107 hE hp hS
  clear h104
  replace hO := hO.mv hE rfl rfl
  replace h1 := h1.mv hE rfl
  obtain ⟨hp, hc110, h109⟩ := hp
  obtain ⟨r108, hr⟩ : ∃ r, slices_ContainsFunc_api_Pick_api_Pick_verdict_picked_1 l_ ([] : List (Int × Int)) = r := ⟨_, rfl⟩
  replace hm := hm r108 hr
  rw [hr] at hp h109
  clear hr
  subst hp
  replace hS := hS.addbox (id := 4) (t := 111) (cs := [V (.map (some r101))]) kr hc110
  clear hc110
  refine eP T hS ⟨[(2, B (!r108.1))], []⟩ fun a hS => ?_
  refine wret ?_
  exact fin T hS hO (fun c => c) rfl (r := [.bool (!r108.1)]) kr (fun χ' hM hC => ⟨(!r108.1), hm, rfl⟩)
 replace hS := hS.lit (t := 10) kr hb
 replace hm := hm.2 hb
 refine eP T hS ⟨[(2, B false)], []⟩ fun a hS => ?_
 refine wret ?_
 exact fin T hS hO (fun c => c) rfl (r := [.bool false]) kr (fun χ' hM hC => ⟨false, hm, rfl⟩)
theorem C38 (k48_62 : S48_62) (v : ∀ (l_ : List Api_Pick), VC38 l_ (fun r => r = verdict_picked l_)) : S38 := by
 intro w χ l_ a1 c1   h1
 refine (W38 k48_62 w χ l_ a1 c1   _ (v l_) h1).mono ?_
 rintro _ _ _ _ ⟨r, rfl, h⟩
 exact h
theorem W40 (w0 : World) (χ0 : Nat → Nat) (l_ : List Api_Pick) (a1 : Option Addr) (c1 : Nat) (Q : Bool → Prop) (hm : VC40 l_ Q) (h1 : RS tApi_Pick w0 χ0 a1 l_ c1) :
  Ret Tryz.prog 40 #[.slice a1 l_.length c1] xnone w0 χ0 (fun w χ' v => ∃ r, Q r ∧ v = .bool r) := by
 unfold VC40 at hm
 replace hm := hm (h1.sm kr)
 refine enter Tryz.func40 rfl (vals := [.slice a1 l_.length c1]) kr ?_
 intro ρ a hS hO hM
 replace h1 := h1.m0 hM
 clear hM
 refine rP T hS ⟨[(0, Sl a1 l_ c1)], []⟩ fun a hS => ?_
 refine wcut (fun a w => ∃ (ρ : Nat → Nat) (χ : Nat → Nat), VC40_J1 l_ Q ∧ St Tryz.f40.ntmps ⟨[(0, Sl a1 l_ c1)], []⟩ ρ a w χ ∧ Old w0 χ0 w χ ∧ RS tApi_Pick w χ a1 l_ c1) ?_ ?_
 ·refine rP T hS ⟨[(0, Sl a1 l_ c1), (3, I 0)], []⟩ fun a hS => ?_
  refine wblock ?_
  obtain ⟨I1, μ1, hm0, hm⟩ := hm
  refine wloop (σ := Int) (fun s a w => ∃ (ρ : Nat → Nat) (χ : Nat → Nat), I1 s ∧ St Tryz.f40.ntmps ⟨[(0, Sl a1 l_ c1), (3, I s)], []⟩ ρ a w χ ∧ Old w0 χ0 w χ ∧ RS tApi_Pick w χ a1 l_ c1) (fun s => μ1 s) (0) ?_ ?_
  ·exact ⟨ρ, _, hm0, hS.sl _, hO, h1⟩
  rintro i_103 a w148 ⟨ρ, χ147, hI, hS, hO, h102⟩
  replace hm := hm i_103 hI
  clear hI hm0
  refine wseq (rP T hS ⟨[(0, Sl a1 l_ c1), (3, I i_103), (8, B (decide (i_103 < (lN l_))))], []⟩ fun a hS => ?_)
  refine wcond hS (b := decide (i_103 < (lN l_))) kr (fun hb => ?_) (fun hb => ?_)
  ·replace hm := hm.1 hb
   refine wskip ?_
   refine wcut (fun a w => ∃ (ρ : Nat → Nat) (χ : Nat → Nat), VC40_J2 I1 μ1 i_103 ∧ St Tryz.f40.ntmps ⟨[(0, Sl a1 l_ c1), (3, I i_103)], []⟩ ρ a w χ ∧ Old w0 χ0 w χ ∧ RS tApi_Pick w χ a1 l_ c1) ?_ ?_
   ·refine wblock ?_
    refine wseq ?_
    refine wcut (fun a w => ∃ (ρ : Nat → Nat) (χ : Nat → Nat) (x_106 : Bool), VC40_J3 l_ Q I1 μ1 i_103 x_106 ∧ St Tryz.f40.ntmps ⟨[(0, Sl a1 l_ c1), (3, I i_103), (40, B x_106)], []⟩ ρ a w χ ∧ Old w0 χ0 w χ ∧ RS tApi_Pick w χ a1 l_ c1) ?_ ?_
    ·refine region ?_
     refine oP T hS 2 ⟨[(0, Sl a1 l_ c1), (3, I i_103), (11, Sl a1 l_ c1), (12, I i_103)], []⟩ fun a hS => ?_
     obtain ⟨hq, hm⟩ := hm
     refine op1 (index (e := 44) (k := .i64) T hS kr kr kr kr h102 kr kr hq.1 hq.2 ?_)
     intro A123 a h124 hS
     refine op1 (fieldA (off := 0) (fsz := 1) (ft := 3) (TF := tI) (y := (gi l_ i_103).Oper) T hS kr kr kr h124 kr kr kr (fun cs h => Api_Pick_f0 h) ?_)
     intro A125 a h126 hS
     refine op1 (load1 T hS kr kr kr h126 rfl kr ?_)
     intro v127 a hv hS
     cases hv
     refine oP T hS 2 ⟨[(0, Sl a1 l_ c1), (3, I i_103), (17, B (decide (((gi l_ i_103).Oper) < 0)))], []⟩ fun a hS => ?_
     rcases Bool.eq_false_or_eq_true (decide (((gi l_ i_103).Oper) < 0)) with hb | hb
     ·replace hS := hS.lit (t := 17) kr hb
      replace hm := hm.1 hb
      refine eP T hS ⟨[(0, Sl a1 l_ c1), (3, I i_103), (40, B true)], []⟩ fun a hS => ?_
      exact ⟨ρ, _, true, hm, hS.sl _, hO, h102⟩
     replace hS := hS.lit (t := 17) kr hb
     replace hm := hm.2 hb
     refine oP T hS 2 ⟨[(0, Sl a1 l_ c1), (3, I i_103), (17, B false), (18, Sl a1 l_ c1), (19, I i_103)], []⟩ fun a hS => ?_
     obtain ⟨hq, hm⟩ := hm
     refine op1 (index (e := 44) (k := .i64) T hS kr kr kr kr h102 kr kr hq.1 hq.2 ?_)
     intro A128 a h129 hS
     refine op1 (fieldA (off := 0) (fsz := 1) (ft := 3) (TF := tI) (y := (gi l_ i_103).Oper) T hS kr kr kr h129 kr kr kr (fun cs h => Api_Pick_f0 h) ?_)
     intro A130 a h131 hS
     refine op1 (load1 T hS kr kr kr h131 rfl kr ?_)
     intro v132 a hv hS
     cases hv
     refine oP T hS 3 ⟨[(0, Sl a1 l_ c1), (3, I i_103), (18, Sl a1 l_ c1), (19, I i_103), (20, V (.pointer (some A128))), (21, V (.pointer (some A130))), (22, I ((gi l_ i_103).Oper)), (23, B (decide (((gi l_ i_103).Oper) > 63))), (25, B (decide (((gi l_ i_103).Oper) > 63)))], []⟩ fun a hS => ?_
     rcases Bool.eq_false_or_eq_true (decide (((gi l_ i_103).Oper) > 63)) with hb | hb
     ·replace hS := hS.lit (t := 25) kr hb
      replace hm := hm.1 hb
      refine eP T hS ⟨[(0, Sl a1 l_ c1), (3, I i_103), (18, Sl a1 l_ c1), (19, I i_103), (20, V (.pointer (some A128))), (21, V (.pointer (some A130))), (22, I ((gi l_ i_103).Oper)), (23, B (decide (((gi l_ i_103).Oper) > 63))), (40, B true)], []⟩ fun a hS => ?_
      exact ⟨ρ, _, true, hm, hS.sl _, hO, h102⟩
     replace hS := hS.lit (t := 25) kr hb
     replace hm := hm.2 hb
     refine oP T hS 2 ⟨[(0, Sl a1 l_ c1), (3, I i_103), (18, Sl a1 l_ c1), (19, I i_103), (20, V (.pointer (some A128))), (21, V (.pointer (some A130))), (22, I ((gi l_ i_103).Oper)), (23, B (decide (((gi l_ i_103).Oper) > 63))), (25, B false), (26, Sl a1 l_ c1), (27, I i_103)], []⟩ fun a hS => ?_
     obtain ⟨hq, hm⟩ := hm
     refine op1 (index (e := 44) (k := .i64) T hS kr kr kr kr h102 kr kr hq.1 hq.2 ?_)
     intro A133 a h134 hS
     refine op1 (fieldA (off := 1) (fsz := 1) (ft := 3) (TF := tI) (y := (gi l_ i_103).Result) T hS kr kr kr h134 kr kr kr (fun cs h => Api_Pick_f1 h) ?_)
     intro A135 a h136 hS
     refine op1 (load1 T hS kr kr kr h136 rfl kr ?_)
     intro v137 a hv hS
     cases hv
     refine oP T hS 3 ⟨[(0, Sl a1 l_ c1), (3, I i_103), (18, Sl a1 l_ c1), (19, I i_103), (20, V (.pointer (some A128))), (21, V (.pointer (some A130))), (22, I ((gi l_ i_103).Oper)), (23, B (decide (((gi l_ i_103).Oper) > 63))), (26, Sl a1 l_ c1), (27, I i_103), (28, V (.pointer (some A133))), (29, V (.pointer (some A135))), (30, I ((gi l_ i_103).Result)), (31, B (decide (((gi l_ i_103).Result) < 0))), (33, B (decide (((gi l_ i_103).Result) < 0)))], []⟩ fun a hS => ?_
     rcases Bool.eq_false_or_eq_true (decide (((gi l_ i_103).Result) < 0)) with hb | hb
     ·replace hS := hS.lit (t := 33) kr hb
      replace hm := hm.1 hb
      refine eP T hS ⟨[(0, Sl a1 l_ c1), (3, I i_103), (18, Sl a1 l_ c1), (19, I i_103), (20, V (.pointer (some A128))), (21, V (.pointer (some A130))), (22, I ((gi l_ i_103).Oper)), (23, B (decide (((gi l_ i_103).Oper) > 63))), (26, Sl a1 l_ c1), (27, I i_103), (28, V (.pointer (some A133))), (29, V (.pointer (some A135))), (30, I ((gi l_ i_103).Result)), (31, B (decide (((gi l_ i_103).Result) < 0))), (40, B true)], []⟩ fun a hS => ?_
      exact ⟨ρ, _, true, hm, hS.sl _, hO, h102⟩
     replace hS := hS.lit (t := 33) kr hb
     replace hm := hm.2 hb
     refine oP T hS 2 ⟨[(0, Sl a1 l_ c1), (3, I i_103), (18, Sl a1 l_ c1), (19, I i_103), (20, V (.pointer (some A128))), (21, V (.pointer (some A130))), (22, I ((gi l_ i_103).Oper)), (23, B (decide (((gi l_ i_103).Oper) > 63))), (26, Sl a1 l_ c1), (27, I i_103), (28, V (.pointer (some A133))), (29, V (.pointer (some A135))), (30, I ((gi l_ i_103).Result)), (31, B (decide (((gi l_ i_103).Result) < 0))), (33, B false), (34, Sl a1 l_ c1), (35, I i_103)], []⟩ fun a hS => ?_
     obtain ⟨hq, hm⟩ := hm
     refine op1 (index (e := 44) (k := .i64) T hS kr kr kr kr h102 kr kr hq.1 hq.2 ?_)
     intro A138 a h139 hS
     refine op1 (fieldA (off := 1) (fsz := 1) (ft := 3) (TF := tI) (y := (gi l_ i_103).Result) T hS kr kr kr h139 kr kr kr (fun cs h => Api_Pick_f1 h) ?_)
     intro A140 a h141 hS
     refine op1 (load1 T hS kr kr kr h141 rfl kr ?_)
     intro v142 a hv hS
     cases hv
     refine eP T hS ⟨[(0, Sl a1 l_ c1), (3, I i_103), (18, Sl a1 l_ c1), (19, I i_103), (20, V (.pointer (some A128))), (21, V (.pointer (some A130))), (22, I ((gi l_ i_103).Oper)), (23, B (decide (((gi l_ i_103).Oper) > 63))), (26, Sl a1 l_ c1), (27, I i_103), (28, V (.pointer (some A133))), (29, V (.pointer (some A135))), (30, I ((gi l_ i_103).Result)), (31, B (decide (((gi l_ i_103).Result) < 0))), (34, Sl a1 l_ c1), (35, I i_103), (36, V (.pointer (some A138))), (37, V (.pointer (some A140))), (38, I ((gi l_ i_103).Result)), (39, B (decide (((gi l_ i_103).Result) > 1000000))), (40, B (decide (((gi l_ i_103).Result) > 1000000)))], []⟩ fun a hS => ?_
     exact ⟨ρ, _, decide (((gi l_ i_103).Result) > 1000000), hm, hS.sl _, hO, h102⟩
    rintro a w144 ⟨ρ, χ143, x_106, hm, hS, hO, h105⟩
    unfold VC40_J3 at hm
    refine wcond hS (b := x_106) kr (fun hb => ?_) (fun hb => ?_)
    ·replace hm := hm.1 hb
     refine rP T hS ⟨[(2, B false)], []⟩ fun a hS => ?_
     refine wret ?_
     exact fin T hS hO (fun c => c) rfl (r := [.bool false]) kr (fun χ' hM hC => ⟨false, hm, rfl⟩)
    replace hm := hm.2 hb
    refine wskip ?_
    refine rP T hS ⟨[(0, Sl a1 l_ c1), (3, I i_103), (4, I 0)], []⟩ fun a hS => ?_
    refine wblock ?_
    obtain ⟨I2, μ2, hm0, hm⟩ := hm
    refine wloop (σ := Int) (fun s a w => ∃ (ρ : Nat → Nat) (χ : Nat → Nat), I2 s ∧ St Tryz.f40.ntmps ⟨[(0, Sl a1 l_ c1), (3, I i_103), (4, I s)], []⟩ ρ a w χ ∧ Old w0 χ0 w χ ∧ RS tApi_Pick w χ a1 l_ c1) (fun s => μ2 s) (0) ?_ ?_
    ·exact ⟨ρ, _, hm0, hS.sl _, hO, h105⟩
    rintro k_108 a w122 ⟨ρ, χ121, hI, hS, hO, h107⟩
    replace hm := hm k_108 hI
    clear hI hm0
    refine wseq (rP T hS ⟨[(0, Sl a1 l_ c1), (3, I i_103), (4, I k_108), (43, B (decide (k_108 < i_103)))], []⟩ fun a hS => ?_)
    refine wcond hS (b := decide (k_108 < i_103)) kr (fun hb => ?_) (fun hb => ?_)
    ·replace hm := hm.1 hb
     refine wskip (wseq ?_)
     refine wblock ?_
     refine drawnSX [] mixed hS ?_
     intro w109 χ110 hS hE hD hH
     replace hO := hO.mv hE rfl rfl
     replace h107 := h107.mv hE rfl
     refine tk T [0, 1, 5, 6] [] hS hH #[true, true, false, false, false, true, true, false, false, false, false] 7 ⟨[(0, Sl a1 l_ c1), (3, I i_103), (4, I k_108), (46, Sl a1 l_ c1), (47, I k_108), (51, Sl a1 l_ c1), (52, I i_103)], []⟩ fun a hS => ?_
     obtain ⟨hq, hm⟩ := hm
     refine dindex (e := 44) (k := .i64) T 2 hS kr kr kr (by rfl) kr hH kr kr h107 kr kr hq.1 hq.2 ?_
     intro A111 a h112 hS
     have h112b := h112.here
     refine dfieldA (off := 0) (fsz := 1) (ft := 3) (TF := tI) (y := (gi l_ k_108).Oper) 3 T hS kr kr kr (by rfl) kr hH kr h112 kr kr kr (fun cs h => Api_Pick_f0 h) ?_
     intro A113 a h114 hbl hS
     have h114b := h112b
     rw [← hbl] at h114b
     clear hbl
     refine dload1 T 4 hS kr kr kr (by rfl) kr hH kr h114 h114b rfl kr ?_
     intro v115 a hv hS
     cases hv
     obtain ⟨hq, hm⟩ := hm
     refine dindex (e := 44) (k := .i64) T 7 hS kr kr kr (by rfl) kr hH kr kr h107 kr kr hq.1 hq.2 ?_
     intro A116 a h117 hS
     have h117b := h117.here
     refine dfieldA (off := 0) (fsz := 1) (ft := 3) (TF := tI) (y := (gi l_ i_103).Oper) 8 T hS kr kr kr (by rfl) kr hH kr h117 kr kr kr (fun cs h => Api_Pick_f0 h) ?_
     intro A118 a h119 hbl hS
     have h119b := h117b
     rw [← hbl] at h119b
     clear hbl
     refine dload1 T 9 hS kr kr kr (by rfl) kr hH kr h119 h119b rfl kr ?_
     intro v120 a hv hS
     cases hv
     refine tk T [10] [] hS hH #[true, true, true, true, true, true, true, true, true, true, true] 0 ⟨[(0, Sl a1 l_ c1), (3, I i_103), (4, I k_108), (56, B (((gi l_ k_108).Oper) == ((gi l_ i_103).Oper)))], []⟩ fun a hS => ?_
     refine drawnDone kr ?_
     clear hD hH
     replace hS := hS.sl ⟨[(0, Sl a1 l_ c1), (3, I i_103), (4, I k_108), (56, B (((gi l_ k_108).Oper) == ((gi l_ i_103).Oper)))], []⟩
     refine wcond hS (b := (((gi l_ k_108).Oper) == ((gi l_ i_103).Oper))) kr (fun hb => ?_) (fun hb => ?_)
     ·replace hm := hm.1 hb
      refine rP T hS ⟨[(2, B false)], []⟩ fun a hS => ?_
      refine wret ?_
      exact fin T hS hO (fun c => c) rfl (r := [.bool false]) kr (fun χ' hM hC => ⟨false, hm, rfl⟩)
     replace hm := hm.2 hb
     refine wskip ?_
     refine region (eP T hS ⟨[(0, Sl a1 l_ c1), (3, I i_103), (4, I (wR (k_108 + 1)))], []⟩ fun a hS => ?_)
     exact ⟨wR (k_108 + 1), ⟨ρ, _, hm.1, hS.sl _, hO, h107⟩, hm.2⟩
    replace hm := hm.2 hb
    refine wexit (by rfl) ?_
    exact ⟨ρ, _, hm, hS.sl _, hO, h107⟩
   rintro a w146 ⟨ρ, χ145, hm, hS, hO, h104⟩
   unfold VC40_J2 at hm
   refine region (eP T hS ⟨[(0, Sl a1 l_ c1), (3, I (wR (i_103 + 1)))], []⟩ fun a hS => ?_)
   exact ⟨wR (i_103 + 1), ⟨ρ, _, hm.1, hS.sl _, hO, h104⟩, hm.2⟩
  replace hm := hm.2 hb
  refine wexit (by rfl) ?_
  exact ⟨ρ, _, hm, hS.sl _, hO, h102⟩
 rintro a w150 ⟨ρ, χ149, hm, hS, hO, h101⟩
 unfold VC40_J1 at hm
 refine rP T hS ⟨[(2, B (decide ((lN l_) ≤ 64)))], []⟩ fun a hS => ?_
 refine wret ?_
 exact fin T hS hO (fun c => c) rfl (r := [.bool (decide ((lN l_) ≤ 64))]) kr (fun χ' hM hC => ⟨(decide ((lN l_) ≤ 64)), hm, rfl⟩)
theorem C40 (v : ∀ (l_ : List Api_Pick), VC40 l_ (fun r => r = ref39_picked l_)) : S40 := by
 intro w χ l_ a1 c1   h1
 refine (W40 w χ l_ a1 c1   _ (v l_) h1).mono ?_
 rintro _ _ _ _ ⟨r, rfl, h⟩
 exact h
theorem W37 (w0 : World) (χ0 : Nat → Nat) (v_ : Api_Verdict) (a1 : Option Addr) (c1 : Nat) (a2 : Option Addr) (c2 : Nat) (Q : Bool → Prop) (hm : VC37 v_ Q) (h1 : RS tApi_Pick w0 χ0 a1 v_.Picks c1) (h2 : RS tApi_Step w0 χ0 a2 v_.Proof c2) :
  Ret Tryz.prog 37 #[.agg #[.int .i64 v_.Kind, .int .i64 v_.At, .int .i64 v_.Err, .slice a1 v_.Picks.length c1, .slice a2 v_.Proof.length c2]] xnone w0 χ0 (fun w χ' v => ∃ r, Q r ∧ v = .bool r) := by
 unfold VC37 at hm
 replace hm := hm (h1.sm kr)
 replace hm := hm (h2.sm kr)
 refine enter Tryz.func37 rfl (vals := [.agg #[.int .i64 v_.Kind, .int .i64 v_.At, .int .i64 v_.Err, .slice a1 v_.Picks.length c1, .slice a2 v_.Proof.length c2]]) kr ?_
 intro ρ a hS hO hM
 replace h1 := h1.m0 hM
 replace h2 := h2.m0 hM
 clear hM
 refine rM T hS ⟨[(1, Pt 2 0)], [(2, (27, [I v_.Kind, I v_.At, I v_.Err, Sl a1 v_.Picks c1, Sl a2 v_.Proof c2]))]⟩ fun ρ a w101 χ102 hS hE hr => ?_
 replace hO := hO.mv hE rfl rfl
 replace h1 := h1.mv hE rfl
 replace h2 := h2.mv hE rfl
 clear hE hr
 refine wseq (rP T hS ⟨[(1, Pt 2 0), (5, B (v_.Kind == 1))], [(2, (27, [I v_.Kind, I v_.At, I v_.Err, Sl a1 v_.Picks c1, Sl a2 v_.Proof c2]))]⟩ fun a hS => ?_)
 refine wcond hS (b := (v_.Kind == 1)) kr (fun hb => ?_) (fun hb => ?_)
 ·replace hm := hm.1 hb
  refine rP T hS ⟨[(2, B ((((decide (v_.At ≥ 0)) && (decide (v_.At ≤ 1000000))) && (decide (v_.Err ≥ 1))) && (decide (v_.Err ≤ 99))))], []⟩ (sp := [9, 14, 19]) fun a hS => ?_
  refine wret ?_
  exact fin T hS hO (fun c => c) rfl (r := [.bool ((((decide (v_.At ≥ 0)) && (decide (v_.At ≤ 1000000))) && (decide (v_.Err ≥ 1))) && (decide (v_.Err ≤ 99)))]) kr (fun χ' hM hC => ⟨((((decide (v_.At ≥ 0)) && (decide (v_.At ≤ 1000000))) && (decide (v_.Err ≥ 1))) && (decide (v_.Err ≤ 99))), hm, rfl⟩)
 replace hm := hm.2 hb
 refine wskip ?_
 refine rP T hS ⟨[(2, B ((v_.At == 0) && (v_.Err == 0)))], []⟩ (sp := [27]) fun a hS => ?_
 refine wret ?_
 exact fin T hS hO (fun c => c) rfl (r := [.bool ((v_.At == 0) && (v_.Err == 0))]) kr (fun χ' hM hC => ⟨((v_.At == 0) && (v_.Err == 0)), hm, rfl⟩)
theorem C37 (v : ∀ (v_ : Api_Verdict), VC37 v_ (fun r => r = verdict_placed v_)) : S37 := by
 intro w χ v_ a1 c1 a2 c2   h1 h2
 refine (W37 w χ v_ a1 c1 a2 c2   _ (v v_) h1 h2).mono ?_
 rintro _ _ _ _ ⟨r, rfl, h⟩
 exact h
theorem W12 (k15 : S15) (k36 : S36) (k37 : S37) (k38 : S38) (w0 : World) (χ0 : Nat → Nat) (v_ : Api_Verdict) (a1 : Option Addr) (c1 : Nat) (a2 : Option Addr) (c2 : Nat) (Q : Int → Prop) (hm : VC12 v_ Q) (h1 : RS tApi_Pick w0 χ0 a1 v_.Picks c1) (h2 : RS tApi_Step w0 χ0 a2 v_.Proof c2) :
  Ret Tryz.prog 12 #[.agg #[.int .i64 v_.Kind, .int .i64 v_.At, .int .i64 v_.Err, .slice a1 v_.Picks.length c1, .slice a2 v_.Proof.length c2]] xnone w0 χ0 (fun w χ' v => ∃ r, Q r ∧ v = .int .i64 r) := by
 unfold VC12 at hm
 replace hm := hm (h1.sm kr)
 replace hm := hm (h2.sm kr)
 refine enter Tryz.func12 rfl (vals := [.agg #[.int .i64 v_.Kind, .int .i64 v_.At, .int .i64 v_.Err, .slice a1 v_.Picks.length c1, .slice a2 v_.Proof.length c2]]) kr ?_
 intro ρ a hS hO hM
 replace h1 := h1.m0 hM
 replace h2 := h2.m0 hM
 clear hM
 refine rM T hS ⟨[(1, Pt 2 0)], [(2, (27, [I v_.Kind, I v_.At, I v_.Err, Sl a1 v_.Picks c1, Sl a2 v_.Proof c2]))]⟩ fun ρ a w122 χ123 hS hE hr => ?_
 replace hO := hO.mv hE rfl rfl
 replace h1 := h1.mv hE rfl
 replace h2 := h2.mv hE rfl
 clear hE hr
 refine wseq ?_
 refine regO ?_
 refine oP T hS 2 ⟨[(1, Pt 2 0), (7, I v_.Kind)], [(2, (27, [I v_.Kind, I v_.At, I v_.Err, Sl a1 v_.Picks c1, Sl a2 v_.Proof c2]))]⟩ fun a hS => ?_
 refine op1 (call hS kr kr hb15 kr (fun _ _ => rfl) (k15 _ _ v_.Kind) ?_)
 intro v101 a w102 χ103 hE hp hS
 replace hO := hO.mv hE rfl rfl
 replace h1 := h1.mv hE rfl
 replace h2 := h2.mv hE rfl
 obtain ⟨r104, hr⟩ : ∃ r, verdict_Word v_.Kind = r := ⟨_, rfl⟩
 replace hm := hm r104 hr
 rw [hr] at hp
 clear hr
 subst hp
 refine eP T hS ⟨[(1, Pt 2 0), (9, B (r104 == ([] : List UInt8)))], [(2, (27, [I v_.Kind, I v_.At, I v_.Err, Sl a1 v_.Picks c1, Sl a2 v_.Proof c2]))]⟩ fun a hS => ?_
 refine wcond hS (b := (r104 == ([] : List UInt8))) kr (fun hb => ?_) (fun hb => ?_)
 ·replace hm := hm.1 hb
  refine rP T hS ⟨[(2, I 31)], []⟩ fun a hS => ?_
  refine wret ?_
  exact fin T hS hO (fun c => c) rfl (r := [.int .i64 31]) kr (fun χ' hM hC => ⟨31, hm, rfl⟩)
 replace hm := hm.2 hb
 refine wskip ?_
 refine regO ?_
 refine oP T hS 2 ⟨[(1, Pt 2 0), (12, Sl a2 v_.Proof c2)], [(2, (27, [I v_.Kind, I v_.At, I v_.Err, Sl a1 v_.Picks c1, Sl a2 v_.Proof c2]))]⟩ fun a hS => ?_
 refine op1 (call hS kr kr hb36 kr (fun _ _ => rfl) (k36 _ _ v_.Proof a2 c2 h2) ?_)
 intro v105 a w106 χ107 hE hp hS
 replace hO := hO.mv hE rfl rfl
 replace h1 := h1.mv hE rfl
 replace h2 := h2.mv hE rfl
 obtain ⟨r108, hr⟩ : ∃ r, proof_Check v_.Proof = r := ⟨_, rfl⟩
 replace hm := hm r108 hr
 rw [hr] at hp
 clear hr
 subst hp
 refine eP T hS ⟨[(1, Pt 2 0), (4, I r108.2)], [(2, (27, [I v_.Kind, I v_.At, I v_.Err, Sl a1 v_.Picks c1, Sl a2 v_.Proof c2]))]⟩ fun a hS => ?_
 refine wcut (fun a w => ∃ (ρ : Nat → Nat) (χ : Nat → Nat) (fine_109 : Bool), VC12_J1 v_ Q fine_109 ∧ St Tryz.f12.ntmps ⟨[(1, Pt 2 0), (5, B fine_109)], [(2, (27, [I v_.Kind, I v_.At, I v_.Err, Sl a1 v_.Picks c1, Sl a2 v_.Proof c2]))]⟩ ρ a w χ ∧ Old w0 χ0 w χ ∧ RS tApi_Pick w χ a1 v_.Picks c1 ∧ RS tApi_Step w χ a2 v_.Proof c2) ?_ ?_
 ·refine region ?_
  refine oP T hS 1 ⟨[(1, Pt 2 0), (4, I r108.2), (16, V (.agg #[.int .i64 v_.Kind, .int .i64 v_.At, .int .i64 v_.Err, .slice a1 v_.Picks.length c1, .slice a2 v_.Proof.length c2]))], [(2, (27, [I v_.Kind, I v_.At, I v_.Err, Sl a1 v_.Picks c1, Sl a2 v_.Proof c2]))]⟩ fun a hS => ?_
  refine op1 (call hS kr kr hb37 kr (fun _ _ => rfl) (k37 _ _ v_ a1 c1 a2 c2 h1 h2) ?_)
  intro v112 a w113 χ114 hE hp hS
  replace hO := hO.mv hE rfl rfl
  replace h1 := h1.mv hE rfl
  replace h2 := h2.mv hE rfl
  obtain ⟨r115, hr⟩ : ∃ r, verdict_placed v_ = r := ⟨_, rfl⟩
  replace hm := hm r115 hr
  rw [hr] at hp
  clear hr
  subst hp
  refine oP T hS 1 ⟨[(1, Pt 2 0), (4, I r108.2), (18, B r115)], [(2, (27, [I v_.Kind, I v_.At, I v_.Err, Sl a1 v_.Picks c1, Sl a2 v_.Proof c2]))]⟩ fun a hS => ?_
  rcases Bool.eq_false_or_eq_true r115 with hb | hb
  ·replace hS := hS.lit (t := 18) kr hb
   replace hm := hm.1 hb
   refine oP T hS 2 ⟨[(1, Pt 2 0), (4, I r108.2), (18, B true), (20, Sl a1 v_.Picks c1)], [(2, (27, [I v_.Kind, I v_.At, I v_.Err, Sl a1 v_.Picks c1, Sl a2 v_.Proof c2]))]⟩ fun a hS => ?_
   refine op1 (call hS kr kr hb38 kr (fun _ _ => rfl) (k38 _ _ v_.Picks a1 c1 h1) ?_)
   intro v116 a w117 χ118 hE hp hS
   replace hO := hO.mv hE rfl rfl
   replace h1 := h1.mv hE rfl
   replace h2 := h2.mv hE rfl
   obtain ⟨r119, hr⟩ : ∃ r, verdict_picked v_.Picks = r := ⟨_, rfl⟩
   replace hm := hm r119 hr
   rw [hr] at hp
   clear hr
   subst hp
   refine eP T hS ⟨[(1, Pt 2 0), (5, B (r119 && (r108.2 == 0)))], [(2, (27, [I v_.Kind, I v_.At, I v_.Err, Sl a1 v_.Picks c1, Sl a2 v_.Proof c2]))]⟩ (sp := [23]) fun a hS => ?_
   exact ⟨ρ, _, (r119 && (r108.2 == 0)), hm, hS.sl _, hO, h1, h2⟩
  replace hS := hS.lit (t := 18) kr hb
  replace hm := hm.2 hb
  refine eP T hS ⟨[(1, Pt 2 0), (5, B false)], [(2, (27, [I v_.Kind, I v_.At, I v_.Err, Sl a1 v_.Picks c1, Sl a2 v_.Proof c2]))]⟩ fun a hS => ?_
  exact ⟨ρ, _, false, hm, hS.sl _, hO, h1, h2⟩
 rintro a w121 ⟨ρ, χ120, fine_109, hm, hS, hO, h110, h111⟩
 unfold VC12_J1 at hm
 refine rP T hS ⟨[(1, Pt 2 0), (5, B (fine_109 && ((v_.Kind == 4) || ((lN v_.Picks) == 0))))], [(2, (27, [I v_.Kind, I v_.At, I v_.Err, Sl a1 v_.Picks c1, Sl a2 v_.Proof c2]))]⟩ (sp := [28, 32]) fun a hS => ?_
 refine rP T hS ⟨[(5, B ((fine_109 && ((v_.Kind == 4) || ((lN v_.Picks) == 0))) && ((v_.Kind == 5) || ((lN v_.Proof) == 0))))], []⟩ (sp := [40, 44]) fun a hS => ?_
 refine wseq (rP T hS ⟨[(52, B (!((fine_109 && ((v_.Kind == 4) || ((lN v_.Picks) == 0))) && ((v_.Kind == 5) || ((lN v_.Proof) == 0)))))], []⟩ fun a hS => ?_)
 refine wcond hS (b := (!((fine_109 && ((v_.Kind == 4) || ((lN v_.Picks) == 0))) && ((v_.Kind == 5) || ((lN v_.Proof) == 0))))) kr (fun hb => ?_) (fun hb => ?_)
 ·replace hm := hm.1 hb
  refine rP T hS ⟨[(2, I 2)], []⟩ fun a hS => ?_
  refine wret ?_
  exact fin T hS hO (fun c => c) rfl (r := [.int .i64 2]) kr (fun χ' hM hC => ⟨2, hm, rfl⟩)
 replace hm := hm.2 hb
 refine wskip ?_
 refine rP T hS ⟨[(2, I 0)], []⟩ fun a hS => ?_
 refine wret ?_
 exact fin T hS hO (fun c => c) rfl (r := [.int .i64 0]) kr (fun χ' hM hC => ⟨0, hm, rfl⟩)
theorem C12 (k15 : S15) (k36 : S36) (k37 : S37) (k38 : S38) (v : ∀ (v_ : Api_Verdict), VC12 v_ (fun r => r = verdict_Check v_)) : S12 := by
 intro w χ v_ a1 c1 a2 c2   h1 h2
 refine (W12 k15 k36 k37 k38 w χ v_ a1 c1 a2 c2   _ (v v_) h1 h2).mono ?_
 rintro _ _ _ _ ⟨r, rfl, h⟩
 exact h
theorem W14 (k41 : S41) (k42 : S42) (w0 : World) (χ0 : Nat → Nat) (a_ : Api_Verdict) (b_ : Api_Verdict) (a1 : Option Addr) (c1 : Nat) (a2 : Option Addr) (c2 : Nat) (a3 : Option Addr) (c3 : Nat) (a4 : Option Addr) (c4 : Nat) (Q : Bool → Prop) (hm : VC14 a_ b_ Q) (h1 : RS tApi_Pick w0 χ0 a1 a_.Picks c1) (h2 : RS tApi_Step w0 χ0 a2 a_.Proof c2) (h3 : RS tApi_Pick w0 χ0 a3 b_.Picks c3) (h4 : RS tApi_Step w0 χ0 a4 b_.Proof c4) :
  Ret Tryz.prog 14 #[.agg #[.int .i64 a_.Kind, .int .i64 a_.At, .int .i64 a_.Err, .slice a1 a_.Picks.length c1, .slice a2 a_.Proof.length c2], .agg #[.int .i64 b_.Kind, .int .i64 b_.At, .int .i64 b_.Err, .slice a3 b_.Picks.length c3, .slice a4 b_.Proof.length c4]] xnone w0 χ0 (fun w χ' v => ∃ r, Q r ∧ v = .bool r) := by
 unfold VC14 at hm
 replace hm := hm (h1.sm kr)
 replace hm := hm (h2.sm kr)
 replace hm := hm (h3.sm kr)
 replace hm := hm (h4.sm kr)
 refine enter Tryz.func14 rfl (vals := [.agg #[.int .i64 a_.Kind, .int .i64 a_.At, .int .i64 a_.Err, .slice a1 a_.Picks.length c1, .slice a2 a_.Proof.length c2], .agg #[.int .i64 b_.Kind, .int .i64 b_.At, .int .i64 b_.Err, .slice a3 b_.Picks.length c3, .slice a4 b_.Proof.length c4]]) kr ?_
 intro ρ a hS hO hM
 replace h1 := h1.m0 hM
 replace h2 := h2.m0 hM
 replace h3 := h3.m0 hM
 replace h4 := h4.m0 hM
 clear hM
 refine rM T hS ⟨[(2, Pt 3 0), (3, Pt 4 0)], [(3, (27, [I a_.Kind, I a_.At, I a_.Err, Sl a1 a_.Picks c1, Sl a2 a_.Proof c2])), (4, (27, [I b_.Kind, I b_.At, I b_.Err, Sl a3 b_.Picks c3, Sl a4 b_.Proof c4]))]⟩ fun ρ a w109 χ110 hS hE hr => ?_
 replace hO := hO.mv hE rfl rfl
 replace h1 := h1.mv hE rfl
 replace h2 := h2.mv hE rfl
 replace h3 := h3.mv hE rfl
 replace h4 := h4.mv hE rfl
 clear hE hr
 refine regO ?_
 refine oP T hS 20 ⟨[(2, Pt 3 0), (3, Pt 4 0), (24, B (((a_.Kind == b_.Kind) && (a_.At == b_.At)) && (a_.Err == b_.Err)))], [(3, (27, [I a_.Kind, I a_.At, I a_.Err, Sl a1 a_.Picks c1, Sl a2 a_.Proof c2])), (4, (27, [I b_.Kind, I b_.At, I b_.Err, Sl a3 b_.Picks c3, Sl a4 b_.Proof c4]))]⟩ (sp := [10, 17]) fun a hS => ?_
 rcases Bool.eq_false_or_eq_true (((a_.Kind == b_.Kind) && (a_.At == b_.At)) && (a_.Err == b_.Err)) with hb | hb
 ·replace hS := hS.lit (t := 24) kr hb
  replace hm := hm.1 hb
  refine oP T hS 4 ⟨[(2, Pt 3 0), (3, Pt 4 0), (24, B true), (26, Sl a1 a_.Picks c1), (28, Sl a3 b_.Picks c3)], [(3, (27, [I a_.Kind, I a_.At, I a_.Err, Sl a1 a_.Picks c1, Sl a2 a_.Proof c2])), (4, (27, [I b_.Kind, I b_.At, I b_.Err, Sl a3 b_.Picks c3, Sl a4 b_.Proof c4]))]⟩ fun a hS => ?_
  refine op1 (call hS kr kr hb41 kr (fun _ _ => rfl) (k41 _ _ a_.Picks b_.Picks a1 c1 a3 c3 h1 h3) ?_)
  intro v101 a w102 χ103 hE hp hS
  replace hO := hO.mv hE rfl rfl
  replace h1 := h1.mv hE rfl
  replace h2 := h2.mv hE rfl
  replace h3 := h3.mv hE rfl
  replace h4 := h4.mv hE rfl
  obtain ⟨r104, hr⟩ : ∃ r, slices_Equal_api_Pick_api_Pick a_.Picks b_.Picks = r := ⟨_, rfl⟩
  replace hm := hm r104 hr
  rw [hr] at hp
  clear hr
  subst hp
  refine oP T hS 2 ⟨[(2, Pt 3 0), (3, Pt 4 0), (31, B r104)], [(3, (27, [I a_.Kind, I a_.At, I a_.Err, Sl a1 a_.Picks c1, Sl a2 a_.Proof c2])), (4, (27, [I b_.Kind, I b_.At, I b_.Err, Sl a3 b_.Picks c3, Sl a4 b_.Proof c4]))]⟩ fun a hS => ?_
  rcases Bool.eq_false_or_eq_true r104 with hb | hb
  ·replace hS := hS.lit (t := 31) kr hb
   replace hm := hm.1 hb
   refine oP T hS 4 ⟨[(31, B true), (33, Sl a2 a_.Proof c2), (35, Sl a4 b_.Proof c4)], []⟩ fun a hS => ?_
   refine op1 (call hS kr kr hb42 kr (fun _ _ => rfl) (k42 _ _ a_.Proof b_.Proof a2 c2 a4 c4 h2 h4) ?_)
   intro v105 a w106 χ107 hE hp hS
   replace hO := hO.mv hE rfl rfl
   replace h2 := h2.mv hE rfl
   replace h4 := h4.mv hE rfl
   obtain ⟨r108, hr⟩ : ∃ r, proof_Same a_.Proof b_.Proof = r := ⟨_, rfl⟩
   replace hm := hm r108 hr
   rw [hr] at hp
   clear hr
   subst hp
   refine eP T hS ⟨[(4, B r108)], []⟩ fun a hS => ?_
   refine wret ?_
   exact fin T hS hO (fun c => c) rfl (r := [.bool r108]) kr (fun χ' hM hC => ⟨r108, hm, rfl⟩)
  replace hS := hS.lit (t := 31) kr hb
  replace hm := hm.2 hb
  refine eP T hS ⟨[(4, B false)], []⟩ fun a hS => ?_
  refine wret ?_
  exact fin T hS hO (fun c => c) rfl (r := [.bool false]) kr (fun χ' hM hC => ⟨false, hm, rfl⟩)
 replace hS := hS.lit (t := 24) kr hb
 replace hm := hm.2 hb
 refine eP T hS ⟨[(4, B false)], []⟩ fun a hS => ?_
 refine wret ?_
 exact fin T hS hO (fun c => c) rfl (r := [.bool false]) kr (fun χ' hM hC => ⟨false, hm, rfl⟩)
theorem C14 (k41 : S41) (k42 : S42) (v : ∀ (a_ : Api_Verdict) (b_ : Api_Verdict), VC14 a_ b_ (fun r => r = verdict_Same a_ b_)) : S14 := by
 intro w χ a_ b_ a1 c1 a2 c2 a3 c3 a4 c4   h1 h2 h3 h4
 refine (W14 k41 k42 w χ a_ b_ a1 c1 a2 c2 a3 c3 a4 c4   _ (v a_ b_) h1 h2 h3 h4).mono ?_
 rintro _ _ _ _ ⟨r, rfl, h⟩
 exact h
theorem W8 (k29 : S29) (k30 : S30) (w0 : World) (χ0 : Nat → Nat) (a_ : Api_Verdict) (b_ : Api_Verdict) (a1 : Option Addr) (c1 : Nat) (a2 : Option Addr) (c2 : Nat) (a3 : Option Addr) (c3 : Nat) (a4 : Option Addr) (c4 : Nat) (Q : Bool → Prop) (hm : VC8 a_ b_ Q) (h1 : RS tApi_Pick w0 χ0 a1 a_.Picks c1) (h2 : RS tApi_Step w0 χ0 a2 a_.Proof c2) (h3 : RS tApi_Pick w0 χ0 a3 b_.Picks c3) (h4 : RS tApi_Step w0 χ0 a4 b_.Proof c4) :
  Ret Tryz.prog 8 #[.agg #[.int .i64 a_.Kind, .int .i64 a_.At, .int .i64 a_.Err, .slice a1 a_.Picks.length c1, .slice a2 a_.Proof.length c2], .agg #[.int .i64 b_.Kind, .int .i64 b_.At, .int .i64 b_.Err, .slice a3 b_.Picks.length c3, .slice a4 b_.Proof.length c4]] xnone w0 χ0 (fun w χ' v => ∃ r, Q r ∧ v = .bool r) := by
 unfold VC8 at hm
 replace hm := hm (h1.sm kr)
 replace hm := hm (h2.sm kr)
 replace hm := hm (h3.sm kr)
 replace hm := hm (h4.sm kr)
 refine enter Tryz.func8 rfl (vals := [.agg #[.int .i64 a_.Kind, .int .i64 a_.At, .int .i64 a_.Err, .slice a1 a_.Picks.length c1, .slice a2 a_.Proof.length c2], .agg #[.int .i64 b_.Kind, .int .i64 b_.At, .int .i64 b_.Err, .slice a3 b_.Picks.length c3, .slice a4 b_.Proof.length c4]]) kr ?_
 intro ρ a hS hO hM
 replace h1 := h1.m0 hM
 replace h2 := h2.m0 hM
 replace h3 := h3.m0 hM
 replace h4 := h4.m0 hM
 clear hM
 refine rM T hS ⟨[(2, Pt 3 0), (3, Pt 4 0)], [(3, (27, [I a_.Kind, I a_.At, I a_.Err, Sl a1 a_.Picks c1, Sl a2 a_.Proof c2])), (4, (27, [I b_.Kind, I b_.At, I b_.Err, Sl a3 b_.Picks c3, Sl a4 b_.Proof c4]))]⟩ fun ρ a w109 χ110 hS hE hr => ?_
 replace hO := hO.mv hE rfl rfl
 replace h1 := h1.mv hE rfl
 replace h2 := h2.mv hE rfl
 replace h3 := h3.mv hE rfl
 replace h4 := h4.mv hE rfl
 clear hE hr
 refine regO ?_
 refine oP T hS 20 ⟨[(2, Pt 3 0), (3, Pt 4 0), (24, B (((a_.Kind == b_.Kind) && (a_.At == b_.At)) && (a_.Err == b_.Err)))], [(3, (27, [I a_.Kind, I a_.At, I a_.Err, Sl a1 a_.Picks c1, Sl a2 a_.Proof c2])), (4, (27, [I b_.Kind, I b_.At, I b_.Err, Sl a3 b_.Picks c3, Sl a4 b_.Proof c4]))]⟩ (sp := [10, 17]) fun a hS => ?_
 rcases Bool.eq_false_or_eq_true (((a_.Kind == b_.Kind) && (a_.At == b_.At)) && (a_.Err == b_.Err)) with hb | hb
 ·replace hS := hS.lit (t := 24) kr hb
  replace hm := hm.1 hb
  refine oP T hS 4 ⟨[(2, Pt 3 0), (3, Pt 4 0), (24, B true), (26, Sl a1 a_.Picks c1), (28, Sl a3 b_.Picks c3)], [(3, (27, [I a_.Kind, I a_.At, I a_.Err, Sl a1 a_.Picks c1, Sl a2 a_.Proof c2])), (4, (27, [I b_.Kind, I b_.At, I b_.Err, Sl a3 b_.Picks c3, Sl a4 b_.Proof c4]))]⟩ fun a hS => ?_
  refine op1 (call hS kr kr hb29 kr (fun _ _ => rfl) (k29 _ _ a_.Picks b_.Picks a1 c1 a3 c3 h1 h3) ?_)
  intro v101 a w102 χ103 hE hp hS
  replace hO := hO.mv hE rfl rfl
  replace h1 := h1.mv hE rfl
  replace h2 := h2.mv hE rfl
  replace h3 := h3.mv hE rfl
  replace h4 := h4.mv hE rfl
  obtain ⟨r104, hr⟩ : ∃ r, ref28_Same a_.Picks b_.Picks = r := ⟨_, rfl⟩
  replace hm := hm r104 hr
  rw [hr] at hp
  clear hr
  subst hp
  refine oP T hS 2 ⟨[(2, Pt 3 0), (3, Pt 4 0), (31, B r104)], [(3, (27, [I a_.Kind, I a_.At, I a_.Err, Sl a1 a_.Picks c1, Sl a2 a_.Proof c2])), (4, (27, [I b_.Kind, I b_.At, I b_.Err, Sl a3 b_.Picks c3, Sl a4 b_.Proof c4]))]⟩ fun a hS => ?_
  rcases Bool.eq_false_or_eq_true r104 with hb | hb
  ·replace hS := hS.lit (t := 31) kr hb
   replace hm := hm.1 hb
   refine oP T hS 4 ⟨[(31, B true), (33, Sl a2 a_.Proof c2), (35, Sl a4 b_.Proof c4)], []⟩ fun a hS => ?_
   refine op1 (call hS kr kr hb30 kr (fun _ _ => rfl) (k30 _ _ a_.Proof b_.Proof a2 c2 a4 c4 h2 h4) ?_)
   intro v105 a w106 χ107 hE hp hS
   replace hO := hO.mv hE rfl rfl
   replace h2 := h2.mv hE rfl
   replace h4 := h4.mv hE rfl
   obtain ⟨r108, hr⟩ : ∃ r, ref10_Same a_.Proof b_.Proof = r := ⟨_, rfl⟩
   replace hm := hm r108 hr
   rw [hr] at hp
   clear hr
   subst hp
   refine eP T hS ⟨[(4, B r108)], []⟩ fun a hS => ?_
   refine wret ?_
   exact fin T hS hO (fun c => c) rfl (r := [.bool r108]) kr (fun χ' hM hC => ⟨r108, hm, rfl⟩)
  replace hS := hS.lit (t := 31) kr hb
  replace hm := hm.2 hb
  refine eP T hS ⟨[(4, B false)], []⟩ fun a hS => ?_
  refine wret ?_
  exact fin T hS hO (fun c => c) rfl (r := [.bool false]) kr (fun χ' hM hC => ⟨false, hm, rfl⟩)
 replace hS := hS.lit (t := 24) kr hb
 replace hm := hm.2 hb
 refine eP T hS ⟨[(4, B false)], []⟩ fun a hS => ?_
 refine wret ?_
 exact fin T hS hO (fun c => c) rfl (r := [.bool false]) kr (fun χ' hM hC => ⟨false, hm, rfl⟩)
theorem C8 (k29 : S29) (k30 : S30) (v : ∀ (a_ : Api_Verdict) (b_ : Api_Verdict), VC8 a_ b_ (fun r => r = ref39_Same a_ b_)) : S8 := by
 intro w χ a_ b_ a1 c1 a2 c2 a3 c3 a4 c4   h1 h2 h3 h4
 refine (W8 k29 k30 w χ a_ b_ a1 c1 a2 c2 a3 c3 a4 c4   _ (v a_ b_) h1 h2 h3 h4).mono ?_
 rintro _ _ _ _ ⟨r, rfl, h⟩
 exact h
theorem W32 (k55 : S55) (w0 : World) (χ0 : Nat → Nat) (word : List UInt8) (n_ : List Int) (a1 : Option Addr) (c1 : Nat) (Q : (List UInt8) → Prop) (hm : VC32 word n_ Q) (h1 : RS tI w0 χ0 a1 n_ c1) (hAmb : Amb w0 χ0) :
  Ret Tryz.prog 32 #[.string (bs word), .slice a1 n_.length c1] xnone w0 χ0 (fun w χ' v => ∃ r, Q r ∧ v = .string (bs r)) := by
 unfold VC32 at hm
 replace hm := hm (h1.sm kr)
 refine enter Tryz.func32 rfl (vals := [.string (bs word), .slice a1 n_.length c1]) kr ?_
 intro ρ a hS hO hM
 replace h1 := h1.m0 hM
 replace hAmb := hAmb.m0 hM
 clear hM
 refine rP T hS ⟨[(0, Z word), (1, Sl a1 n_ c1)], []⟩ fun a hS => ?_
 refine wcut (fun a w => ∃ (ρ : Nat → Nat) (χ : Nat → Nat) (word_101 : List UInt8), VC32_J1 Q word_101 ∧ St Tryz.f32.ntmps ⟨[(0, Z word_101)], []⟩ ρ a w χ ∧ Old w0 χ0 w χ ∧ Amb w χ) ?_ ?_
 ·refine rP T hS ⟨[(0, Z word), (7, Sl a1 n_ c1), (8, I (lN n_)), (9, I 0)], []⟩ fun a hS => ?_
  refine wblock ?_
  obtain ⟨I1, μ1, hm0, hm⟩ := hm
  refine wloop (σ := (List UInt8) × Int) (fun s a w => ∃ (ρ : Nat → Nat) (χ : Nat → Nat), I1 s.1 s.2 ∧ St Tryz.f32.ntmps ⟨[(0, Z s.1), (7, Sl a1 n_ c1), (8, I (lN n_)), (9, I s.2)], []⟩ ρ a w χ ∧ Old w0 χ0 w χ ∧ RS tI w χ a1 n_ c1 ∧ Amb w χ) (fun s => μ1 s.1 s.2) (⟨word, 0⟩) ?_ ?_
  ·exact ⟨ρ, _, hm0, hS.sl _, hO, h1, hAmb⟩
  rintro ⟨word_102, x_104⟩ a w113 ⟨ρ, χ112, hI, hS, hO, h103, hAmb⟩
  replace hm := hm word_102 x_104 hI
  clear hI hm0
  refine rP T hS ⟨[(0, Z word_102), (7, Sl a1 n_ c1), (8, I (lN n_)), (9, I x_104), (10, B (decide (x_104 < (lN n_))))], []⟩ fun a hS => ?_
  refine wseq ?_
  refine wcond hS (b := decide (x_104 < (lN n_))) kr (fun hb => ?_) (fun hb => ?_)
  ·replace hm := hm.1 hb
   refine wskip (wseq ?_)
   refine wblock ?_
   refine regO ?_
   obtain ⟨hq, hm⟩ := hm
   refine op1 (index (e := 3) (k := .i64) T hS kr kr kr kr h103 kr kr hq.1 hq.2 ?_)
   intro A105 a h106 hS
   refine op1 (load1 T hS kr kr kr h106 rfl kr ?_)
   intro v107 a hv hS
   cases hv
   refine eP T hS ⟨[(0, Z word_102), (6, I (gi n_ x_104)), (7, Sl a1 n_ c1), (8, I (lN n_)), (9, I x_104)], []⟩ fun a hS => ?_
   refine region ?_
   refine oP T hS 2 ⟨[(0, Z word_102), (7, Sl a1 n_ c1), (8, I (lN n_)), (9, I x_104), (13, Z word_102), (14, I (gi n_ x_104))], []⟩ fun a hS => ?_
   obtain ⟨hq, hm⟩ := hm
   refine op1 (call hS kr kr hb55 kr (fun _ _ => rfl) (k55 _ _ (gi n_ x_104) hq hAmb) ?_)
   intro v108 a w109 χ110 hE hp hS
   replace hO := hO.mv hE rfl rfl
   replace h103 := h103.mv hE rfl
   replace hAmb := hAmb.mv hE rfl
   obtain ⟨r111, hr⟩ : ∃ r, token_Digits (gi n_ x_104) = r := ⟨_, rfl⟩
   replace hm := hm r111 hr
   rw [hr] at hp
   clear hr
   subst hp
   obtain ⟨hq, hm⟩ := hm
   refine op1 (sadd (p := ([32] : List UInt8)) (q := r111) hS kr kr kr kr hq ?_)
   intro a hS
   obtain ⟨hq, hm⟩ := hm
   refine op1 (sadd (p := word_102) (q := (([32] : List UInt8) ++ r111)) hS kr kr kr kr hq ?_)
   intro a hS
   refine eP T hS ⟨[(0, Z (word_102 ++ (([32] : List UInt8) ++ r111))), (7, Sl a1 n_ c1), (8, I (lN n_)), (9, I x_104)], []⟩ fun a hS => ?_
   refine region (eP T hS ⟨[(0, Z (word_102 ++ (([32] : List UInt8) ++ r111))), (7, Sl a1 n_ c1), (8, I (lN n_)), (9, I (wR (x_104 + 1)))], []⟩ fun a hS => ?_)
   exact ⟨⟨(word_102 ++ (([32] : List UInt8) ++ r111)), wR (x_104 + 1)⟩, ⟨ρ, _, hm.1, hS.sl _, hO, h103, hAmb⟩, hm.2⟩
  replace hm := hm.2 hb
  refine wexit (by rfl) ?_
  exact ⟨ρ, _, word_102, hm, hS.sl _, hO, hAmb⟩
 rintro a w115 ⟨ρ, χ114, word_101, hm, hS, hO, hAmb⟩
 unfold VC32_J1 at hm
 refine regO ?_
 refine oP T hS 1 ⟨[(19, Z word_101)], []⟩ fun a hS => ?_
 obtain ⟨hq, hm⟩ := hm
 refine op1 (sadd (p := word_101) (q := ([10] : List UInt8)) hS kr kr kr kr hq ?_)
 intro a hS
 refine eP T hS ⟨[(4, Z (word_101 ++ ([10] : List UInt8)))], []⟩ fun a hS => ?_
 refine wret ?_
 exact fin T hS hO (fun c => c) rfl (r := [.string (bs (word_101 ++ ([10] : List UInt8)))]) kr (fun χ' hM hC => ⟨(word_101 ++ ([10] : List UInt8)), hm, rfl⟩)
theorem C32 (k55 : S55) (v : ∀ (word : List UInt8) (n_ : List Int), preWB word n_ → VC32 word n_ (fun r => r = verdict_line word n_)) : S32 := by
 intro w χ word n_ a1 c1   hp h1 hAmb
 refine (W32 k55 w χ word n_ a1 c1   _ (v word n_ hp) h1 hAmb).mono ?_
 rintro _ _ _ _ ⟨r, rfl, h⟩
 exact h
theorem W10 (k12 : S12) (k15 : S15) (k32 : S32) (k33 : S33) (w0 : World) (χ0 : Nat → Nat) (v_ : Api_Verdict) (a1 : Option Addr) (c1 : Nat) (a2 : Option Addr) (c2 : Nat) (Q : (List UInt8) × Int → Prop) (hm : VC10 v_ Q) (h1 : RS tApi_Pick w0 χ0 a1 v_.Picks c1) (h2 : RS tApi_Step w0 χ0 a2 v_.Proof c2) (hAmb : Amb w0 χ0) :
  Ret Tryz.prog 10 #[.agg #[.int .i64 v_.Kind, .int .i64 v_.At, .int .i64 v_.Err, .slice a1 v_.Picks.length c1, .slice a2 v_.Proof.length c2]] xnone w0 χ0 (fun w χ' v => ∃ r, Q r ∧ v = .tuple #[.string (bs r.1), .int .i64 r.2]) := by
 unfold VC10 at hm
 replace hm := hm (h1.sm kr)
 replace hm := hm (h2.sm kr)
 refine enter Tryz.func10 rfl (vals := [.agg #[.int .i64 v_.Kind, .int .i64 v_.At, .int .i64 v_.Err, .slice a1 v_.Picks.length c1, .slice a2 v_.Proof.length c2]]) kr ?_
 intro ρ a hS hO hM
 replace h1 := h1.m0 hM
 replace h2 := h2.m0 hM
 replace hAmb := hAmb.m0 hM
 clear hM
 refine rM T hS ⟨[(1, Pt 2 0)], [(2, (27, [I v_.Kind, I v_.At, I v_.Err, Sl a1 v_.Picks c1, Sl a2 v_.Proof c2]))]⟩ fun ρ a w228 χ229 hS hE hr => ?_
 replace hO := hO.mv hE rfl rfl
 replace h1 := h1.mv hE rfl
 replace h2 := h2.mv hE rfl
 replace hAmb := hAmb.mv hE rfl
 clear hE hr
 refine wseq ?_
 refine regO ?_
 refine oP T hS 1 ⟨[(1, Pt 2 0), (10, V (.agg #[.int .i64 v_.Kind, .int .i64 v_.At, .int .i64 v_.Err, .slice a1 v_.Picks.length c1, .slice a2 v_.Proof.length c2]))], [(2, (27, [I v_.Kind, I v_.At, I v_.Err, Sl a1 v_.Picks c1, Sl a2 v_.Proof c2]))]⟩ fun a hS => ?_
 refine op1 (call hS kr kr hb12 kr (fun _ _ => rfl) (k12 _ _ v_ a1 c1 a2 c2 h1 h2) ?_)
 intro v101 a w102 χ103 hE hp hS
 replace hO := hO.mv hE rfl rfl
 replace h1 := h1.mv hE rfl
 replace h2 := h2.mv hE rfl
 replace hAmb := hAmb.mv hE rfl
 obtain ⟨r104, hr⟩ : ∃ r, verdict_Check v_ = r := ⟨_, rfl⟩
 replace hm := hm r104 hr
 rw [hr] at hp
 clear hr
 subst hp
 refine eP T hS ⟨[(1, Pt 2 0), (4, I r104)], [(2, (27, [I v_.Kind, I v_.At, I v_.Err, Sl a1 v_.Picks c1, Sl a2 v_.Proof c2]))]⟩ fun a hS => ?_
 refine rP T hS ⟨[(1, Pt 2 0), (4, I r104), (13, B (r104 != 0))], [(2, (27, [I v_.Kind, I v_.At, I v_.Err, Sl a1 v_.Picks c1, Sl a2 v_.Proof c2]))]⟩ fun a hS => ?_
 refine wcond hS (b := (r104 != 0)) kr (fun hb => ?_) (fun hb => ?_)
 ·replace hm := hm.1 hb
  refine rP T hS ⟨[(2, Z ([] : List UInt8)), (3, I r104)], []⟩ fun a hS => ?_
  refine wret ?_
  exact fin T hS hO (fun c => c) rfl (r := [.string (bs ([] : List UInt8)), .int .i64 r104]) kr (fun χ' hM hC => ⟨(([] : List UInt8), r104), hm, rfl⟩)
 replace hm := hm.2 hb
 refine wskip ?_
 refine regO ?_
 refine oP T hS 2 ⟨[(1, Pt 2 0), (16, I v_.Kind)], [(2, (27, [I v_.Kind, I v_.At, I v_.Err, Sl a1 v_.Picks c1, Sl a2 v_.Proof c2]))]⟩ fun a hS => ?_
 refine op1 (call hS kr kr hb15 kr (fun _ _ => rfl) (k15 _ _ v_.Kind) ?_)
 intro v105 a w106 χ107 hE hp hS
 replace hO := hO.mv hE rfl rfl
 replace h1 := h1.mv hE rfl
 replace h2 := h2.mv hE rfl
 replace hAmb := hAmb.mv hE rfl
 obtain ⟨r108, hr⟩ : ∃ r, verdict_Word v_.Kind = r := ⟨_, rfl⟩
 replace hm := hm r108 hr
 rw [hr] at hp
 clear hr
 subst hp
 obtain ⟨hq, hm⟩ := hm
 refine op1 (call hS kr kr hb32 kr (fun _ _ => rfl) (k32 _ _ r108 [] none 0 hq (RS.empty _ _ _) hAmb) ?_)
 intro v109 a w110 χ111 hE hp hS
 replace hO := hO.mv hE rfl rfl
 replace h1 := h1.mv hE rfl
 replace h2 := h2.mv hE rfl
 replace hAmb := hAmb.mv hE rfl
 obtain ⟨r112, hr⟩ : ∃ r, verdict_line r108 [] = r := ⟨_, rfl⟩
 replace hm := hm r112 hr
 rw [hr] at hp
 clear hr
 subst hp
 refine eP T hS ⟨[(1, Pt 2 0), (5, Z r112)], [(2, (27, [I v_.Kind, I v_.At, I v_.Err, Sl a1 v_.Picks c1, Sl a2 v_.Proof c2]))]⟩ fun a hS => ?_
 refine wcut (fun a w => ∃ (ρ : Nat → Nat) (χ : Nat → Nat) (s_113 : List UInt8), VC10_J1 Q s_113 ∧ St Tryz.f10.ntmps ⟨[(5, Z s_113)], []⟩ ρ a w χ ∧ Old w0 χ0 w χ ∧ Amb w χ) ?_ ?_
 ·refine rP T hS ⟨[(1, Pt 2 0), (5, Z r112), (20, I v_.Kind)], [(2, (27, [I v_.Kind, I v_.At, I v_.Err, Sl a1 v_.Picks c1, Sl a2 v_.Proof c2]))]⟩ fun a hS => ?_
  refine wblock ?_
  refine rP T hS ⟨[(1, Pt 2 0), (5, Z r112), (20, I v_.Kind), (21, B (v_.Kind == 1))], [(2, (27, [I v_.Kind, I v_.At, I v_.Err, Sl a1 v_.Picks c1, Sl a2 v_.Proof c2]))]⟩ fun a hS => ?_
  refine wcond hS (b := (v_.Kind == 1)) kr (fun hb => ?_) (fun hb => ?_)
  ·replace hm := hm.1 hb
   refine drawnX [2] mixed hS ?_
   intro w114 χ115 hS hE hD hH
   replace hO := hO.mv hE rfl rfl
   replace h1 := h1.mv hE rfl
   replace h2 := h2.mv hE rfl
   replace hAmb := hAmb.mv hE rfl
   refine tk T [0, 3, 5, 1, 4, 6] [2] hS hH #[true, true, false, true, true, true, true, false, false, false] 4 ⟨[(5, Z r112), (24, I v_.Kind), (27, I v_.At), (29, I v_.Err)], [(2, (27, [I v_.Kind, I v_.At, I v_.Err, Sl a1 v_.Picks c1, Sl a2 v_.Proof c2]))]⟩ fun a hS => ?_
   obtain ⟨r119, hgr2⟩ : ∃ r, verdict_Word v_.Kind = r := ⟨_, rfl⟩
   replace hm := hm r119 hgr2
   refine drcut (fun a w => ∃ (χ : Nat → Nat) (a133 : Option Addr) (c134 : Nat), St Tryz.f10.ntmps ⟨[(5, Z r112), (25, Z r119), (30, Sl a133 [v_.At, v_.Err] c134)], [(2, (27, [I v_.Kind, I v_.At, I v_.Err, Sl a1 v_.Picks c1, Sl a2 v_.Proof c2]))]⟩ ρ a w χ ∧ Old w0 χ0 w χ ∧ M0 w114 χ115 w χ ∧ Hold w114 χ115 (filt [2] ⟨[(1, Pt 2 0), (5, Z r112)], [(2, (27, [I v_.Kind, I v_.At, I v_.Err, Sl a1 v_.Picks c1, Sl a2 v_.Proof c2]))]⟩) ρ w ∧ RS tI w χ a133 [v_.At, v_.Err] c134 ∧ RS tApi_Pick w χ a1 v_.Picks c1 ∧ RS tApi_Step w χ a2 v_.Proof c2 ∧ Amb w χ) #[true, true, true, true, true, true, true, true, false, false] 2 ?_ (fun H => ?_)
   ·rintro a w154 ⟨χ153, a133, c134, hS, hO, hD, hH, h132, h135, h136, hAmb⟩
    clear hgr2
    obtain ⟨hq, hm⟩ := hm
    refine only 8 kr (by rfl) (call hS kr kr hb32 kr (fun _ _ => rfl) (k32 _ _ r119 [v_.At, v_.Err] a133 c134 hq h132 hAmb) ?_)
    intro v155 a w156 χ157 hE hp hS
    replace hO := hO.mv hE rfl rfl
    replace hD := hD.ev hE rfl
    replace h132 := h132.mv hE rfl
    replace h135 := h135.mv hE rfl
    replace h136 := h136.mv hE rfl
    replace hAmb := hAmb.mv hE rfl
    obtain ⟨r158, hr⟩ : ∃ r, verdict_line r119 [v_.At, v_.Err] = r := ⟨_, rfl⟩
    replace hm := hm r158 hr
    rw [hr] at hp
    clear hr
    subst hp
    replace hS := hS.sl ⟨[(5, Z r112), (25, Z r119), (30, Sl a133 [v_.At, v_.Err] c134), (31, Z r158)], [(2, (27, [I v_.Kind, I v_.At, I v_.Err, Sl a1 v_.Picks c1, Sl a2 v_.Proof c2]))]⟩
    refine andH (Hold.of hS (bks := [2]) kr hD) ?_
    intro hH
    refine tk T [9] [2] hS hH #[true, true, true, true, true, true, true, true, true, true] 0 ⟨[(5, Z r158)], [(2, (27, [I v_.Kind, I v_.At, I v_.Err, Sl a1 v_.Picks c1, Sl a2 v_.Proof c2]))]⟩ fun a hS => ?_
    refine drawnDone kr ?_
    clear hD hH
    replace hS := hS.sl ⟨[(5, Z r158)], []⟩
    exact ⟨ρ, _, r158, hm, hS.sl _, hO, hAmb⟩
   clear hm
   refine anyOf (is := [2, 7]) kr (by decide) ?_
   intro i hi
   rcases mem2 hi with rfl | rfl
   ·refine oneOp (by rfl) (call hS kr kr hb15 kr (fun _ _ => rfl) (k15 _ _ v_.Kind) ?_)
    intro v137 a w138 χ139 hE hp hS
    replace hO := hO.mv hE rfl rfl
    replace hD := hD.ev hE rfl
    replace h1 := h1.mv hE rfl
    replace h2 := h2.mv hE rfl
    replace hAmb := hAmb.mv hE rfl
    rw [hgr2] at hp
    subst hp
    replace hS := hS.sl ⟨[(5, Z r112), (24, I v_.Kind), (27, I v_.At), (29, I v_.Err), (25, Z r119)], [(2, (27, [I v_.Kind, I v_.At, I v_.Err, Sl a1 v_.Picks c1, Sl a2 v_.Proof c2]))]⟩
    refine andH (Hold.of hS (bks := [2]) kr hD) ?_
    intro hH
    refine only 7 kr (by rfl) (lit (E := 3) (col := 0) (T := tI) (vals := [.int .i64 v_.At, .int .i64 v_.Err]) (ys := [v_.At, v_.Err]) T hS kr kr kr kr (by exact ⟨rfl, rfl, trivial⟩) rfl kr kr kr kr ?_)
    intro b141 a w142 χ143 hE h144 hN hS
    clear hN
    replace hO := hO.mv hE rfl rfl
    replace hD := hD.ev hE rfl
    replace h1 := h1.mv hE rfl
    replace h2 := h2.mv hE rfl
    replace hAmb := hAmb.mv hE rfl
    replace h144 := h144.rs0
    refine andH (Hold.of hS (bks := [2]) kr hD) ?_
    intro hH
    exact H _ _ ⟨_, (some ⟨b141, 0, none⟩), 2, hS.sl _, hO, hD, hH, h144, h1, h2, hAmb⟩
   refine oneOp (by rfl) (lit (E := 3) (col := 0) (T := tI) (vals := [.int .i64 v_.At, .int .i64 v_.Err]) (ys := [v_.At, v_.Err]) T hS kr kr kr kr (by exact ⟨rfl, rfl, trivial⟩) rfl kr kr kr kr ?_)
   intro b145 a w146 χ147 hE h148 hN hS
   clear hN
   replace hO := hO.mv hE rfl rfl
   replace hD := hD.ev hE rfl
   replace h1 := h1.mv hE rfl
   replace h2 := h2.mv hE rfl
   replace hAmb := hAmb.mv hE rfl
   replace h148 := h148.rs0
   refine andH (Hold.of hS (bks := [2]) kr hD) ?_
   intro hH
   refine only 2 kr (by rfl) (call hS kr kr hb15 kr (fun _ _ => rfl) (k15 _ _ v_.Kind) ?_)
   intro v149 a w150 χ151 hE hp hS
   replace hO := hO.mv hE rfl rfl
   replace hD := hD.ev hE rfl
   replace h1 := h1.mv hE rfl
   replace h2 := h2.mv hE rfl
   replace hAmb := hAmb.mv hE rfl
   replace h148 := h148.mv hE rfl
   rw [hgr2] at hp
   subst hp
   replace hS := hS.sl ⟨[(5, Z r112), (24, I v_.Kind), (27, I v_.At), (29, I v_.Err), (30, Sl (some ⟨b145, 0, none⟩) [v_.At, v_.Err] 2), (25, Z r119)], [(2, (27, [I v_.Kind, I v_.At, I v_.Err, Sl a1 v_.Picks c1, Sl a2 v_.Proof c2]))]⟩
   refine andH (Hold.of hS (bks := [2]) kr hD) ?_
   intro hH
   exact H _ _ ⟨_, (some ⟨b145, 0, none⟩), 2, hS.sl _, hO, hD, hH, h148, h1, h2, hAmb⟩
  replace hm := hm.2 hb
  refine rP T hS ⟨[(1, Pt 2 0), (5, Z r112), (20, I v_.Kind), (32, B (v_.Kind == 4))], [(2, (27, [I v_.Kind, I v_.At, I v_.Err, Sl a1 v_.Picks c1, Sl a2 v_.Proof c2]))]⟩ fun a hS => ?_
  refine wcond hS (b := (v_.Kind == 4)) kr (fun hb => ?_) (fun hb => ?_)
  ·replace hm := hm.1 hb
   refine drawnSX [2] mixed hS ?_
   intro w159 χ160 hS hE hD hH
   replace hO := hO.mv hE rfl rfl
   replace h1 := h1.mv hE rfl
   replace h2 := h2.mv hE rfl
   replace hAmb := hAmb.mv hE rfl
   refine tk T [0, 3, 1, 4, 5] [2] hS hH #[true, true, false, true, true, true, false, false, false] 4 ⟨[(1, Pt 2 0), (5, Z r112), (35, I v_.Kind), (39, I (lN v_.Picks))], [(2, (27, [I v_.Kind, I v_.At, I v_.Err, Sl a1 v_.Picks c1, Sl a2 v_.Proof c2]))]⟩ fun a hS => ?_
   obtain ⟨r164, hgr2⟩ : ∃ r, verdict_Word v_.Kind = r := ⟨_, rfl⟩
   replace hm := hm r164 hgr2
   refine drcut (fun a w => ∃ (χ : Nat → Nat) (a178 : Option Addr) (c179 : Nat), St Tryz.f10.ntmps ⟨[(1, Pt 2 0), (5, Z r112), (36, Z r164), (40, Sl a178 [(lN v_.Picks)] c179)], [(2, (27, [I v_.Kind, I v_.At, I v_.Err, Sl a1 v_.Picks c1, Sl a2 v_.Proof c2]))]⟩ ρ a w χ ∧ Old w0 χ0 w χ ∧ M0 w159 χ160 w χ ∧ Hold w159 χ160 (filt [2] ⟨[(1, Pt 2 0), (5, Z r112)], [(2, (27, [I v_.Kind, I v_.At, I v_.Err, Sl a1 v_.Picks c1, Sl a2 v_.Proof c2]))]⟩) ρ w ∧ RS tI w χ a178 [(lN v_.Picks)] c179 ∧ RS tApi_Pick w χ a1 v_.Picks c1 ∧ RS tApi_Step w χ a2 v_.Proof c2 ∧ Amb w χ) #[true, true, true, true, true, true, true, false, false] 2 ?_ (fun H => ?_)
   ·rintro a w199 ⟨χ198, a178, c179, hS, hO, hD, hH, h177, h180, h181, hAmb⟩
    clear hgr2
    obtain ⟨hq, hm⟩ := hm
    refine only 7 kr (by rfl) (call hS kr kr hb32 kr (fun _ _ => rfl) (k32 _ _ r164 [(lN v_.Picks)] a178 c179 hq h177 hAmb) ?_)
    intro v200 a w201 χ202 hE hp hS
    replace hO := hO.mv hE rfl rfl
    replace hD := hD.ev hE rfl
    replace h177 := h177.mv hE rfl
    replace h180 := h180.mv hE rfl
    replace h181 := h181.mv hE rfl
    replace hAmb := hAmb.mv hE rfl
    obtain ⟨r203, hr⟩ : ∃ r, verdict_line r164 [(lN v_.Picks)] = r := ⟨_, rfl⟩
    replace hm := hm r203 hr
    rw [hr] at hp
    clear hr
    subst hp
    replace hS := hS.sl ⟨[(1, Pt 2 0), (5, Z r112), (36, Z r164), (40, Sl a178 [(lN v_.Picks)] c179), (41, Z r203)], [(2, (27, [I v_.Kind, I v_.At, I v_.Err, Sl a1 v_.Picks c1, Sl a2 v_.Proof c2]))]⟩
    refine andH (Hold.of hS (bks := [2]) kr hD) ?_
    intro hH
    refine tk T [8] [2] hS hH #[true, true, true, true, true, true, true, true, true] 0 ⟨[(1, Pt 2 0), (5, Z r203)], [(2, (27, [I v_.Kind, I v_.At, I v_.Err, Sl a1 v_.Picks c1, Sl a2 v_.Proof c2]))]⟩ fun a hS => ?_
    refine drawnDone kr ?_
    clear hD hH
    replace hS := hS.sl ⟨[(1, Pt 2 0), (5, Z r203)], [(2, (27, [I v_.Kind, I v_.At, I v_.Err, Sl a1 v_.Picks c1, Sl a2 v_.Proof c2]))]⟩
    refine rP T hS ⟨[(5, Z r203), (43, Sl a1 v_.Picks c1), (44, I (lN v_.Picks)), (45, I 0)], []⟩ fun a hS => ?_
    refine wblock ?_
    obtain ⟨I1, μ1, hm0, hm⟩ := hm
    refine wloop (σ := (List UInt8) × Int) (fun s a w => ∃ (ρ : Nat → Nat) (χ : Nat → Nat), I1 s.1 s.2 ∧ St Tryz.f10.ntmps ⟨[(5, Z s.1), (43, Sl a1 v_.Picks c1), (44, I (lN v_.Picks)), (45, I s.2)], []⟩ ρ a w χ ∧ Old w0 χ0 w χ ∧ RS tApi_Pick w χ a1 v_.Picks c1 ∧ Amb w χ) (fun s => μ1 s.1 s.2) (⟨r203, 0⟩) ?_ ?_
    ·exact ⟨ρ, _, hm0, hS.sl _, hO, h180, hAmb⟩
    rintro ⟨s_204, x_206⟩ a w221 ⟨ρ, χ220, hI, hS, hO, h205, hAmb⟩
    replace hm := hm s_204 x_206 hI
    clear hI hm0
    refine rP T hS ⟨[(5, Z s_204), (43, Sl a1 v_.Picks c1), (44, I (lN v_.Picks)), (45, I x_206), (46, B (decide (x_206 < (lN v_.Picks))))], []⟩ fun a hS => ?_
    refine wseq ?_
    refine wcond hS (b := decide (x_206 < (lN v_.Picks))) kr (fun hb => ?_) (fun hb => ?_)
    ·replace hm := hm.1 hb
     refine wskip (wseq ?_)
     refine wblock ?_
     refine regO ?_
     obtain ⟨hq, hm⟩ := hm
     refine op1 (index (e := 44) (k := .i64) T hS kr kr kr kr h205 kr kr hq.1 hq.2 ?_)
     intro A207 a h208 hS
     refine op1 (loadA T hS kr kr kr h208 kr kr ?_)
     intro v209 a hv hS
     subst hv
     refine eM T hS ⟨[(5, Z s_204), (7, Pt 8 0), (43, Sl a1 v_.Picks c1), (44, I (lN v_.Picks)), (45, I x_206)], [(8, (44, [I ((gi v_.Picks x_206).Oper), I ((gi v_.Picks x_206).Result)]))]⟩ fun ρ a w218 χ219 hS hE hr => ?_
     replace hO := hO.mv hE rfl rfl
     replace h205 := h205.mv hE rfl
     replace hAmb := hAmb.mv hE rfl
     clear hE hr
     refine region ?_
     refine oP T hS 5 ⟨[(5, Z s_204), (43, Sl a1 v_.Picks c1), (44, I (lN v_.Picks)), (45, I x_206), (49, Z s_204), (51, I ((gi v_.Picks x_206).Oper)), (53, I ((gi v_.Picks x_206).Result))], []⟩ fun a hS => ?_
     refine op1 (lit (E := 3) (col := 0) (T := tI) (vals := [.int .i64 ((gi v_.Picks x_206).Oper), .int .i64 ((gi v_.Picks x_206).Result)]) (ys := [(gi v_.Picks x_206).Oper, (gi v_.Picks x_206).Result]) T hS kr kr kr kr (by exact ⟨rfl, rfl, trivial⟩) rfl kr kr kr kr ?_)
     intro b210 a w211 χ212 hE h213 hN hS
     clear hN
     replace hO := hO.mv hE rfl rfl
     replace h205 := h205.mv hE rfl
     replace hAmb := hAmb.mv hE rfl
     replace h213 := h213.rs0
     obtain ⟨hq, hm⟩ := hm
     refine op1 (call hS kr kr hb32 kr (fun _ _ => rfl) (k32 _ _ ([112, 105, 99, 107] : List UInt8) [(gi v_.Picks x_206).Oper, (gi v_.Picks x_206).Result] (some ⟨b210, 0, none⟩) 2 hq h213 hAmb) ?_)
     intro v214 a w215 χ216 hE hp hS
     replace hO := hO.mv hE rfl rfl
     replace h205 := h205.mv hE rfl
     replace hAmb := hAmb.mv hE rfl
     replace h213 := h213.mv hE rfl
     obtain ⟨r217, hr⟩ : ∃ r, verdict_line ([112, 105, 99, 107] : List UInt8) [(gi v_.Picks x_206).Oper, (gi v_.Picks x_206).Result] = r := ⟨_, rfl⟩
     replace hm := hm r217 hr
     rw [hr] at hp
     clear hr
     subst hp
     obtain ⟨hq, hm⟩ := hm
     refine op1 (sadd (p := s_204) (q := r217) hS kr kr kr kr hq ?_)
     intro a hS
     refine eP T hS ⟨[(5, Z (s_204 ++ r217)), (43, Sl a1 v_.Picks c1), (44, I (lN v_.Picks)), (45, I x_206)], []⟩ fun a hS => ?_
     refine region (eP T hS ⟨[(5, Z (s_204 ++ r217)), (43, Sl a1 v_.Picks c1), (44, I (lN v_.Picks)), (45, I (wR (x_206 + 1)))], []⟩ fun a hS => ?_)
     exact ⟨⟨(s_204 ++ r217), wR (x_206 + 1)⟩, ⟨ρ, _, hm.1, hS.sl _, hO, h205, hAmb⟩, hm.2⟩
    replace hm := hm.2 hb
    refine wexit (by rfl) ?_
    exact ⟨ρ, _, s_204, hm, hS.sl _, hO, hAmb⟩
   clear hm
   refine anyOf (is := [2, 6]) kr (by decide) ?_
   intro i hi
   rcases mem2 hi with rfl | rfl
   ·refine oneOp (by rfl) (call hS kr kr hb15 kr (fun _ _ => rfl) (k15 _ _ v_.Kind) ?_)
    intro v182 a w183 χ184 hE hp hS
    replace hO := hO.mv hE rfl rfl
    replace hD := hD.ev hE rfl
    replace h1 := h1.mv hE rfl
    replace h2 := h2.mv hE rfl
    replace hAmb := hAmb.mv hE rfl
    rw [hgr2] at hp
    subst hp
    replace hS := hS.sl ⟨[(1, Pt 2 0), (5, Z r112), (35, I v_.Kind), (39, I (lN v_.Picks)), (36, Z r164)], [(2, (27, [I v_.Kind, I v_.At, I v_.Err, Sl a1 v_.Picks c1, Sl a2 v_.Proof c2]))]⟩
    refine andH (Hold.of hS (bks := [2]) kr hD) ?_
    intro hH
    refine only 6 kr (by rfl) (lit (E := 3) (col := 0) (T := tI) (vals := [.int .i64 (lN v_.Picks)]) (ys := [(lN v_.Picks)]) T hS kr kr kr kr (by exact ⟨rfl, trivial⟩) rfl kr kr kr kr ?_)
    intro b186 a w187 χ188 hE h189 hN hS
    clear hN
    replace hO := hO.mv hE rfl rfl
    replace hD := hD.ev hE rfl
    replace h1 := h1.mv hE rfl
    replace h2 := h2.mv hE rfl
    replace hAmb := hAmb.mv hE rfl
    replace h189 := h189.rs0
    refine andH (Hold.of hS (bks := [2]) kr hD) ?_
    intro hH
    exact H _ _ ⟨_, (some ⟨b186, 0, none⟩), 1, hS.sl _, hO, hD, hH, h189, h1, h2, hAmb⟩
   refine oneOp (by rfl) (lit (E := 3) (col := 0) (T := tI) (vals := [.int .i64 (lN v_.Picks)]) (ys := [(lN v_.Picks)]) T hS kr kr kr kr (by exact ⟨rfl, trivial⟩) rfl kr kr kr kr ?_)
   intro b190 a w191 χ192 hE h193 hN hS
   clear hN
   replace hO := hO.mv hE rfl rfl
   replace hD := hD.ev hE rfl
   replace h1 := h1.mv hE rfl
   replace h2 := h2.mv hE rfl
   replace hAmb := hAmb.mv hE rfl
   replace h193 := h193.rs0
   refine andH (Hold.of hS (bks := [2]) kr hD) ?_
   intro hH
   refine only 2 kr (by rfl) (call hS kr kr hb15 kr (fun _ _ => rfl) (k15 _ _ v_.Kind) ?_)
   intro v194 a w195 χ196 hE hp hS
   replace hO := hO.mv hE rfl rfl
   replace hD := hD.ev hE rfl
   replace h1 := h1.mv hE rfl
   replace h2 := h2.mv hE rfl
   replace hAmb := hAmb.mv hE rfl
   replace h193 := h193.mv hE rfl
   rw [hgr2] at hp
   subst hp
   replace hS := hS.sl ⟨[(1, Pt 2 0), (5, Z r112), (35, I v_.Kind), (39, I (lN v_.Picks)), (40, Sl (some ⟨b190, 0, none⟩) [(lN v_.Picks)] 1), (36, Z r164)], [(2, (27, [I v_.Kind, I v_.At, I v_.Err, Sl a1 v_.Picks c1, Sl a2 v_.Proof c2]))]⟩
   refine andH (Hold.of hS (bks := [2]) kr hD) ?_
   intro hH
   exact H _ _ ⟨_, (some ⟨b190, 0, none⟩), 1, hS.sl _, hO, hD, hH, h193, h1, h2, hAmb⟩
  replace hm := hm.2 hb
  refine rP T hS ⟨[(1, Pt 2 0), (5, Z r112), (58, B (v_.Kind == 5))], [(2, (27, [I v_.Kind, I v_.At, I v_.Err, Sl a1 v_.Picks c1, Sl a2 v_.Proof c2]))]⟩ fun a hS => ?_
  refine wcond hS (b := (v_.Kind == 5)) kr (fun hb => ?_) (fun hb => ?_)
  ·replace hm := hm.1 hb
   refine regO ?_
   refine oP T hS 2 ⟨[(5, Z r112), (62, Sl a2 v_.Proof c2)], []⟩ fun a hS => ?_
   refine op1 (call hS kr kr hb33 kr (fun _ _ => rfl) (k33 _ _ v_.Proof a2 c2 h2 hAmb) ?_)
   intro v222 a w223 χ224 hE hp hS
   replace hO := hO.mv hE rfl rfl
   replace h2 := h2.mv hE rfl
   replace hAmb := hAmb.mv hE rfl
   obtain ⟨r225, hr⟩ : ∃ r, proof_Print v_.Proof = r := ⟨_, rfl⟩
   replace hm := hm r225 hr
   rw [hr] at hp
   clear hr
   subst hp
   refine eP T hS ⟨[(5, Z r112), (8, Z r225.1), (9, I r225.2)], []⟩ fun a hS => ?_
   refine wseq ?_
   refine rP T hS ⟨[(5, Z r112), (8, Z r225.1), (75, B ((r225.2 != 0) || (decide ((wR ((lN r112) + (lN r225.1))) > 1000000))))], []⟩ (sp := [68]) fun a hS => ?_
   refine wcond hS (b := ((r225.2 != 0) || (decide ((wR ((lN r112) + (lN r225.1))) > 1000000)))) kr (fun hb => ?_) (fun hb => ?_)
   ·replace hm := hm.1 hb
    refine rP T hS ⟨[(2, Z ([] : List UInt8)), (3, I 3)], []⟩ fun a hS => ?_
    refine wret ?_
    exact fin T hS hO (fun c => c) rfl (r := [.string (bs ([] : List UInt8)), .int .i64 3]) kr (fun χ' hM hC => ⟨(([] : List UInt8), 3), hm, rfl⟩)
   replace hm := hm.2 hb
   refine wskip ?_
   refine region ?_
   refine oP T hS 2 ⟨[(5, Z r112), (76, Z r112), (77, Z r225.1)], []⟩ fun a hS => ?_
   obtain ⟨hq, hm⟩ := hm
   refine op1 (sadd (p := r112) (q := r225.1) hS kr kr kr kr hq ?_)
   intro a hS
   refine eP T hS ⟨[(5, Z (r112 ++ r225.1))], []⟩ fun a hS => ?_
   exact ⟨ρ, _, (r112 ++ r225.1), hm, hS.sl _, hO, hAmb⟩
  replace hm := hm.2 hb
  refine wskip ?_
  exact ⟨ρ, _, r112, hm, hS.sl _, hO, hAmb⟩
 rintro a w227 ⟨ρ, χ226, s_113, hm, hS, hO, hAmb⟩
 unfold VC10_J1 at hm
 refine rP T hS ⟨[(2, Z s_113), (3, I 0)], []⟩ fun a hS => ?_
 refine wret ?_
 exact fin T hS hO (fun c => c) rfl (r := [.string (bs s_113), .int .i64 0]) kr (fun χ' hM hC => ⟨(s_113, 0), hm, rfl⟩)
theorem C10 (k12 : S12) (k15 : S15) (k32 : S32) (k33 : S33) (v : ∀ (v_ : Api_Verdict), VC10 v_ (fun r => r = verdict_Print v_)) : S10 := by
 intro w χ v_ a1 c1 a2 c2   h1 h2 hAmb
 refine (W10 k12 k15 k32 k33 w χ v_ a1 c1 a2 c2   _ (v v_) h1 h2 hAmb).mono ?_
 rintro _ _ _ _ ⟨r, rfl, h⟩
 exact h
theorem W22 (w0 : World) (χ0 : Nat → Nat) (cap1 : Verdict_reader) (a1 : Option Addr) (c1 : Nat) (b1 : Nat) (i1 : Nat) (Q : (List Token_Token) × Verdict_reader → Prop) (hm : VC22 cap1 Q) (h1 : RS (tSlice tToken_Token) w0 χ0 a1 cap1.rest c1) (hc1 : Cell w0 χ0 b1 i1 49 [.slice a1 cap1.rest.length c1, .int .i64 cap1.end_, .int .i64 cap1.at_, .int .i64 cap1.e]) (hA : Apart [i1]) :
  Ret Tryz.prog 22 #[.pointer (some ⟨b1, 0, none⟩)] (pR [i1]) w0 χ0 (fun w χ' v => ∃ r, Q r ∧ ∃ (ra1 : Option Addr) (rc1 : Nat) (ra2 : Option Addr) (rc2 : Nat), v = .slice ra1 r.1.length rc1 ∧ RS tToken_Token w χ' ra1 r.1 rc1 ∧ RS (tSlice tToken_Token) w χ' ra2 r.2.rest rc2 ∧ Cell w χ' b1 i1 49 [.slice ra2 r.2.rest.length rc2, .int .i64 r.2.end_, .int .i64 r.2.at_, .int .i64 r.2.e]) := by
 unfold VC22 at hm
 replace hm := hm (h1.sm kr)
 refine enterR Tryz.func22 rfl (f0of [(i1, 901)]) (fun id => (bif Nat.beq id 901 then b1 else 0)) (args := [Pt 901 0]) (bxs := [(901, (49, [Sl a1 cap1.rest c1, I cap1.end_, I cap1.at_, I cap1.e]))]) kr rfl (BoxesOK.cons kr (hc1.map (f0of_at 0 hA.1 rfl)) BoxesOK.nil) (f0of_0 (fun q hq => (hA.2 q.1 (List.mem_map.2 ⟨q, hq, rfl⟩)).1)) ?_
 intro a hS hO hM
 have hP : Pin [(901, b1)] (fun id => (bif Nat.beq id 901 then b1 else 0)) := by intro q hq; simp at hq; rcases hq with rfl <;> rfl
 generalize (fun id => (bif Nat.beq id 901 then b1 else 0)) = ρ at hS hP
 clear hc1
 replace h1 := h1.m0 hM
 clear hM
 refine rP T hS ⟨[(0, Pt 901 0)], [(901, (49, [Sl a1 cap1.rest c1, I cap1.end_, I cap1.at_, I cap1.e]))]⟩ fun a hS => ?_
 refine wcut (fun a w => ∃ (ρ : Nat → Nat) (χ : Nat → Nat) (x_101 : List (List Token_Token)) (x_105 : Int) (x_106 : Int) (x_107 : Int) (a102 : Option Addr) (c103 : Nat), VC22_J1 Q x_101 x_105 x_106 x_107 ∧ St Tryz.f22.ntmps ⟨[], [(901, (49, [Sl a102 x_101 c103, I x_105, I x_106, I x_107]))]⟩ ρ a w χ ∧ OldR (f0of [(i1, 901)]) w0 χ0 w χ ∧ Pin [(901, b1)] ρ ∧ RS (tSlice tToken_Token) w χ a102 x_101 c103) ?_ ?_
 ·refine wblock ?_
  obtain ⟨I1, μ1, hm0, hm⟩ := hm
  refine wloop (σ := (List (List Token_Token)) × Int × Int × Int) (fun s a w => ∃ (ρ : Nat → Nat) (χ : Nat → Nat) (a109 : Option Addr) (c110 : Nat), I1 s.1 s.2.1 s.2.2.1 s.2.2.2 ∧ St Tryz.f22.ntmps ⟨[(0, Pt 901 0)], [(901, (49, [Sl a109 s.1 c110, I s.2.1, I s.2.2.1, I s.2.2.2]))]⟩ ρ a w χ ∧ OldR (f0of [(i1, 901)]) w0 χ0 w χ ∧ Pin [(901, b1)] ρ ∧ RS (tSlice tToken_Token) w χ a109 s.1 c110) (fun s => μ1 s.1 s.2.1 s.2.2.1 s.2.2.2) (⟨cap1.rest, cap1.end_, cap1.at_, cap1.e⟩) ?_ ?_
  ·exact ⟨ρ, _, a1, c1, hm0, hS.sl _, hO, hP, h1⟩
  rintro ⟨x_108, x_112, x_113, x_114⟩ a w127 ⟨ρ, χ126, a109, c110, hI, hS, hO, hP, h111⟩
  replace hm := hm x_108 x_112 x_113 x_114 hI
  clear hI hm0
  refine wseq (rP T hS ⟨[(0, Pt 901 0), (9, B (decide ((lN x_108) > 0)))], [(901, (49, [Sl a109 x_108 c110, I x_112, I x_113, I x_114]))]⟩ fun a hS => ?_)
  refine wcond hS (b := decide ((lN x_108) > 0)) kr (fun hb => ?_) (fun hb => ?_)
  ·replace hm := hm.1 hb
   refine wskip ?_
   refine wblock ?_
   refine regO ?_
   refine oP T hS 4 ⟨[(0, Pt 901 0), (13, Sl a109 x_108 c110)], [(901, (49, [Sl a109 x_108 c110, I x_112, I x_113, I x_114]))]⟩ fun a hS => ?_
   obtain ⟨hq, hm⟩ := hm
   refine op1 (index (e := 57) (k := .i64) T hS kr kr kr kr h111 kr kr hq.1 hq.2 ?_)
   intro A115 a h116 hS
   refine op1 (load1 T hS kr kr kr h116 rfl kr ?_)
   intro v117 a hv hS
   obtain ⟨a118, c119, hv, h120⟩ := hv
   cases hv
   replace hm := hm (h120.sm kr)
   refine eP T hS ⟨[(0, Pt 901 0), (3, Sl a118 (gi x_108 0) c119)], [(901, (49, [Sl a109 x_108 c110, I x_112, I x_113, I x_114]))]⟩ fun a hS => ?_
   refine regO ?_
   refine oP T hS 5 ⟨[(0, Pt 901 0), (3, Sl a118 (gi x_108 0) c119), (16, Pt 901 0), (20, Sl a109 x_108 c110)], [(901, (49, [Sl a109 x_108 c110, I x_112, I x_113, I x_114]))]⟩ fun a hS => ?_
   obtain ⟨hq, hm⟩ := hm
   refine op1 (slice1 (E := 57) (kl := .i64) T hS kr kr kr kr h111 kr kr hq.1 hq.2 ?_)
   intro a121 c122 a h123 hS
   refine eM T hS ⟨[(0, Pt 901 0), (3, Sl a118 (gi x_108 0) c119)], [(901, (49, [Sl a121 (x_108.drop (1 : Int).toNat) c122, I x_112, I x_113, I x_114]))]⟩ fun ρ a w124 χ125 hS hE hr => ?_
   replace hO := hO.mv hE rfl rfl
   replace h120 := h120.mv hE rfl
   replace h123 := h123.mv hE rfl
   replace hP := hP.mv hr kr
   clear hE hr
   refine rP T hS ⟨[(0, Pt 901 0), (3, Sl a118 (gi x_108 0) c119), (26, B (decide ((lN (gi x_108 0)) > 0)))], [(901, (49, [Sl a121 (x_108.drop (1 : Int).toNat) c122, I x_112, I x_113, I x_114]))]⟩ fun a hS => ?_
   refine wcond hS (b := decide ((lN (gi x_108 0)) > 0)) kr (fun hb => ?_) (fun hb => ?_)
   ·replace hm := hm.1 hb
    refine rP T hS ⟨[(2, Sl a118 (gi x_108 0) c119)], [(901, (49, [Sl a121 (x_108.drop (1 : Int).toNat) c122, I x_112, I x_113, I x_114]))]⟩ fun a hS => ?_
    refine wret ?_
    exact finR T hS hO (fun c h => f0of_zero kr h) (fun c h => f0of_else (l := [(i1, 901)]) h) (f1of [(i1, 901)]) rfl (r := [.slice a118 (gi x_108 0).length c119]) kr (fun χ' hM hC => ⟨(gi x_108 0, (⟨x_108.drop (1 : Int).toNat, x_112, x_113, x_114⟩ : Verdict_reader)), hm, a118, c119, a121, c122, rfl, h120.m0 hM, h123.m0 hM, ((hS.cell (id := 901) (t := 49) (cs := [Sl a121 (x_108.drop (1 : Int).toNat) c122, I x_112, I x_113, I x_114]) kr).out (f := (f1of [(i1, 901)])) hC kr kr (hP.at 0 rfl))⟩)
   replace hm := hm.2 hb
   refine wskip ?_
   exact ⟨⟨x_108.drop (1 : Int).toNat, x_112, x_113, x_114⟩, ⟨ρ, _, a121, c122, hm.1, hS.sl _, hO, hP, h123⟩, hm.2⟩
  replace hm := hm.2 hb
  refine wexit (by rfl) ?_
  exact ⟨ρ, _, x_108, x_112, x_113, x_114, a109, c110, hm, hS.sl _, hO, hP, h111⟩
 rintro a w129 ⟨ρ, χ128, x_101, x_105, x_106, x_107, a102, c103, hm, hS, hO, hP, h104⟩
 unfold VC22_J1 at hm
 refine rP T hS ⟨[(2, V (.slice none 0 0))], [(901, (49, [Sl a102 x_101 c103, I x_105, I x_106, I x_107]))]⟩ fun a hS => ?_
 refine wret ?_
 exact finR T hS hO (fun c h => f0of_zero kr h) (fun c h => f0of_else (l := [(i1, 901)]) h) (f1of [(i1, 901)]) rfl (r := [.slice none 0 0]) kr (fun χ' hM hC => ⟨([], (⟨x_101, x_105, x_106, x_107⟩ : Verdict_reader)), hm, none, 0, a102, c103, rfl, RS.empty _ _ _, h104.m0 hM, ((hS.cell (id := 901) (t := 49) (cs := [Sl a102 x_101 c103, I x_105, I x_106, I x_107]) kr).out (f := (f1of [(i1, 901)])) hC kr kr (hP.at 0 rfl))⟩)
theorem C22 (v : ∀ (cap1 : Verdict_reader), VC22 cap1 (fun r => r = verdict_reader_next cap1)) : S22 := by
 intro w χ cap1 a1 c1  b1 i1 h1 hc1 hA
 refine (W22 w χ cap1 a1 c1  b1 i1 _ (v cap1) h1 hc1 hA).mono ?_
 rintro _ _ _ _ ⟨r, rfl, h⟩
 exact h
theorem W47 (k71 : S71) (w0 : World) (χ0 : Nat → Nat) (l_ : List Token_Token) (word : List UInt8) (lo : List Int) (hi : List Int) (cap1 : Verdict_reader) (a1 : Option Addr) (c1 : Nat) (a2 : Option Addr) (c2 : Nat) (a3 : Option Addr) (c3 : Nat) (a4 : Option Addr) (c4 : Nat) (b1 : Nat) (i1 : Nat) (Q : (List Int) × Verdict_reader → Prop) (hm : VC47 l_ word lo hi cap1 Q) (h1 : RS tToken_Token w0 χ0 a1 l_ c1) (h2 : RS tI w0 χ0 a2 lo c2) (h3 : RS tI w0 χ0 a3 hi c3) (h4 : RS (tSlice tToken_Token) w0 χ0 a4 cap1.rest c4) (hc1 : Cell w0 χ0 b1 i1 49 [.slice a4 cap1.rest.length c4, .int .i64 cap1.end_, .int .i64 cap1.at_, .int .i64 cap1.e]) (hA : Apart [i1]) :
  Ret Tryz.prog 47 #[.pointer (some ⟨b1, 0, none⟩), .slice a1 l_.length c1, .string (bs word), .slice a2 lo.length c2, .slice a3 hi.length c3] (pR [i1]) w0 χ0 (fun w χ' v => ∃ r, Q r ∧ ∃ (ra1 : Option Addr) (rc1 : Nat) (ra2 : Option Addr) (rc2 : Nat), v = .slice ra1 r.1.length rc1 ∧ RS tI w χ' ra1 r.1 rc1 ∧ RS (tSlice tToken_Token) w χ' ra2 r.2.rest rc2 ∧ Cell w χ' b1 i1 49 [.slice ra2 r.2.rest.length rc2, .int .i64 r.2.end_, .int .i64 r.2.at_, .int .i64 r.2.e]) := by
 unfold VC47 at hm
 replace hm := hm (h1.sm kr)
 replace hm := hm (h2.sm kr)
 replace hm := hm (h3.sm kr)
 replace hm := hm (h4.sm kr)
 refine enterR Tryz.func47 rfl (f0of [(i1, 901)]) (fun id => (bif Nat.beq id 901 then b1 else 0)) (args := [Pt 901 0, Sl a1 l_ c1, Z word, Sl a2 lo c2, Sl a3 hi c3]) (bxs := [(901, (49, [Sl a4 cap1.rest c4, I cap1.end_, I cap1.at_, I cap1.e]))]) kr rfl (BoxesOK.cons kr (hc1.map (f0of_at 0 hA.1 rfl)) BoxesOK.nil) (f0of_0 (fun q hq => (hA.2 q.1 (List.mem_map.2 ⟨q, hq, rfl⟩)).1)) ?_
 intro a hS hO hM
 have hP : Pin [(901, b1)] (fun id => (bif Nat.beq id 901 then b1 else 0)) := by intro q hq; simp at hq; rcases hq with rfl <;> rfl
 generalize (fun id => (bif Nat.beq id 901 then b1 else 0)) = ρ at hS hP
 clear hc1
 replace h1 := h1.m0 hM
 replace h2 := h2.m0 hM
 replace h3 := h3.m0 hM
 replace h4 := h4.m0 hM
 clear hM
 refine rP T hS ⟨[(0, Pt 901 0), (1, Sl a1 l_ c1), (2, Z word), (3, Sl a2 lo c2), (4, Sl a3 hi c3)], [(901, (49, [Sl a4 cap1.rest c4, I cap1.end_, I cap1.at_, I cap1.e]))]⟩ fun a hS => ?_
 refine wseq (rP T hS ⟨[(0, Pt 901 0), (1, Sl a1 l_ c1), (2, Z word), (3, Sl a2 lo c2), (4, Sl a3 hi c3), (18, B (cap1.e != 0))], [(901, (49, [Sl a4 cap1.rest c4, I cap1.end_, I cap1.at_, I cap1.e]))]⟩ fun a hS => ?_)
 refine wcond hS (b := (cap1.e != 0)) kr (fun hb => ?_) (fun hb => ?_)
 ·replace hm := hm.1 hb
  refine rP T hS ⟨[(10, V (.slice none 0 0))], [(901, (49, [Sl a4 cap1.rest c4, I cap1.end_, I cap1.at_, I cap1.e]))]⟩ fun a hS => ?_
  refine wret ?_
  exact finR T hS hO (fun c h => f0of_zero kr h) (fun c h => f0of_else (l := [(i1, 901)]) h) (f1of [(i1, 901)]) rfl (r := [.slice none 0 0]) kr (fun χ' hM hC => ⟨([], cap1), hm, none, 0, a4, c4, rfl, RS.empty _ _ _, h4.m0 hM, ((hS.cell (id := 901) (t := 49) (cs := [Sl a4 cap1.rest c4, I cap1.end_, I cap1.at_, I cap1.e]) kr).out (f := (f1of [(i1, 901)])) hC kr kr (hP.at 0 rfl))⟩)
 replace hm := hm.2 hb
 refine wskip ?_
 refine regO ?_
 refine oP T hS 8 ⟨[(0, Pt 901 0), (20, Sl a1 l_ c1), (21, Z word), (22, Sl a2 lo c2), (23, Sl a3 hi c3), (27, I cap1.end_)], [(901, (49, [Sl a4 cap1.rest c4, I cap1.end_, I cap1.at_, I cap1.e]))]⟩ fun a hS => ?_
 obtain ⟨hq, hm⟩ := hm
 refine op1 (call hS kr kr hb71 kr (fun _ _ => rfl) (k71 _ _ l_ word lo hi cap1.end_ a1 c1 a2 c2 a3 c3 hq h1 h2 h3) ?_)
 intro v101 a w102 χ103 hE hp hS
 replace hO := hO.mv hE rfl rfl
 replace h1 := h1.mv hE rfl
 replace h2 := h2.mv hE rfl
 replace h3 := h3.mv hE rfl
 replace h4 := h4.mv hE rfl
 obtain ⟨a105, c106, hp, h107⟩ := hp
 obtain ⟨r104, hr⟩ : ∃ r, objtext_Numbers l_ word lo hi cap1.end_ = r := ⟨_, rfl⟩
 replace hm := hm r104 hr
 rw [hr] at hp h107
 clear hr
 subst hp
 replace hm := hm (h107.sm kr)
 refine eP T hS ⟨[(0, Pt 901 0), (11, Sl a105 r104.1 c106), (12, I r104.2.1), (13, I r104.2.2)], [(901, (49, [Sl a4 cap1.rest c4, I cap1.end_, I cap1.at_, I cap1.e]))]⟩ fun a hS => ?_
 refine rM T hS ⟨[(11, Sl a105 r104.1 c106)], [(901, (49, [Sl a4 cap1.rest c4, I cap1.end_, I r104.2.1, I r104.2.2]))]⟩ fun ρ a w108 χ109 hS hE hr => ?_
 replace hO := hO.mv hE rfl rfl
 replace h4 := h4.mv hE rfl
 replace h107 := h107.mv hE rfl
 replace hP := hP.mv hr kr
 clear hE hr
 refine rP T hS ⟨[(10, Sl a105 r104.1 c106)], [(901, (49, [Sl a4 cap1.rest c4, I cap1.end_, I r104.2.1, I r104.2.2]))]⟩ fun a hS => ?_
 refine wret ?_
 exact finR T hS hO (fun c h => f0of_zero kr h) (fun c h => f0of_else (l := [(i1, 901)]) h) (f1of [(i1, 901)]) rfl (r := [.slice a105 r104.1.length c106]) kr (fun χ' hM hC => ⟨(r104.1, (⟨cap1.rest, cap1.end_, r104.2.1, r104.2.2⟩ : Verdict_reader)), hm, a105, c106, a4, c4, rfl, h107.m0 hM, h4.m0 hM, ((hS.cell (id := 901) (t := 49) (cs := [Sl a4 cap1.rest c4, I cap1.end_, I r104.2.1, I r104.2.2]) kr).out (f := (f1of [(i1, 901)])) hC kr kr (hP.at 0 rfl))⟩)
theorem C47 (k71 : S71) (v : ∀ (l_ : List Token_Token) (word : List UInt8) (lo : List Int) (hi : List Int) (cap1 : Verdict_reader), preRdN l_ word lo hi cap1 → VC47 l_ word lo hi cap1 (fun r => r = verdict_reader_numbers l_ word lo hi cap1)) : S47 := by
 intro w χ l_ word lo hi cap1 a1 c1 a2 c2 a3 c3 a4 c4  b1 i1 hp h1 h2 h3 h4 hc1 hA
 refine (W47 k71 w χ l_ word lo hi cap1 a1 c1 a2 c2 a3 c3 a4 c4  b1 i1 _ (v l_ word lo hi cap1 hp) h1 h2 h3 h4 hc1 hA).mono ?_
 rintro _ _ _ _ ⟨r, rfl, h⟩
 exact h
theorem W49 (w0 : World) (χ0 : Nat → Nat) (p_ : Api_Pick) (cap1 : List Int) (a1 : Option Addr) (c1 : Nat) (b1 : Nat) (i1 : Nat) (Q : Bool → Prop) (hm : VC49 p_ cap1 Q) (h1 : RS tI w0 χ0 a1 cap1 c1) (hc1 : Cell w0 χ0 b1 i1 50 [.slice a1 cap1.length c1]) (hA : Apart [i1]) :
  Ret Tryz.prog 49 #[.agg #[.int .i64 p_.Oper, .int .i64 p_.Result], .pointer (some ⟨b1, 0, none⟩)] (pR [i1]) w0 χ0 (fun w χ' v => ∃ r, Q r ∧ v = .bool r ∧ Cell w χ' b1 i1 50 [.slice a1 cap1.length c1]) := by
 unfold VC49 at hm
 replace hm := hm (h1.sm kr)
 refine enterR Tryz.func49 rfl (f0of [(i1, 901)]) (fun id => (bif Nat.beq id 901 then b1 else 0)) (args := [V (.agg #[.int .i64 p_.Oper, .int .i64 p_.Result]), Pt 901 0]) (bxs := [(901, (50, [Sl a1 cap1 c1]))]) kr rfl (BoxesOK.cons kr (hc1.map (f0of_at 0 hA.1 rfl)) BoxesOK.nil) (f0of_0 (fun q hq => (hA.2 q.1 (List.mem_map.2 ⟨q, hq, rfl⟩)).1)) ?_
 intro a hS hO hM
 have hP : Pin [(901, b1)] (fun id => (bif Nat.beq id 901 then b1 else 0)) := by intro q hq; simp at hq; rcases hq with rfl <;> rfl
 generalize (fun id => (bif Nat.beq id 901 then b1 else 0)) = ρ at hS hP
 clear hc1
 replace h1 := h1.m0 hM
 clear hM
 refine rM T hS ⟨[(1, Pt 901 0), (2, Pt 3 0)], [(3, (44, [I p_.Oper, I p_.Result])), (901, (50, [Sl a1 cap1 c1]))]⟩ fun ρ a w106 χ107 hS hE hr => ?_
 replace hO := hO.mv hE rfl rfl
 replace h1 := h1.mv hE rfl
 replace hP := hP.mv hr kr
 clear hE hr
 refine drawnSX [3, 901] mixed hS ?_
 intro w101 χ102 hS hE hD hH
 replace hO := hO.mv hE rfl rfl
 replace h1 := h1.mv hE rfl
 refine tk T [0, 2, 1] [3, 901] hS hH #[true, true, true, false, false, false, false] 4 ⟨[(5, I p_.Oper), (6, Sl a1 cap1 c1)], [(3, (44, [I p_.Oper, I p_.Result])), (901, (50, [Sl a1 cap1 c1]))]⟩ fun a hS => ?_
 obtain ⟨hq, hm⟩ := hm
 refine dindex (e := 3) (k := .i64) T 3 hS kr kr kr (by rfl) kr hH kr kr h1 kr kr hq.1 hq.2 ?_
 intro A103 a h104 hS
 have h104b := h104.here
 refine dload1 T 4 hS kr kr kr (by rfl) kr hH kr h104 h104b rfl kr ?_
 intro v105 a hv hS
 cases hv
 refine tk T [5, 6] [3, 901] hS hH #[true, true, true, true, true, true, true] 0 ⟨[(3, B (p_.Oper == (gi cap1 0)))], [(3, (44, [I p_.Oper, I p_.Result])), (901, (50, [Sl a1 cap1 c1]))]⟩ fun a hS => ?_
 refine drawnDone kr ?_
 clear hD hH
 replace hS := hS.sl ⟨[(3, B (p_.Oper == (gi cap1 0)))], [(901, (50, [Sl a1 cap1 c1]))]⟩
 refine wret ?_
 exact finR T hS hO (fun c h => f0of_zero kr h) (fun c h => f0of_else (l := [(i1, 901)]) h) (f1of [(i1, 901)]) rfl (r := [.bool (p_.Oper == (gi cap1 0))]) kr (fun χ' hM hC => ⟨(p_.Oper == (gi cap1 0)), hm, rfl, ((hS.cell (id := 901) (t := 50) (cs := [Sl a1 cap1 c1]) kr).out (f := (f1of [(i1, 901)])) hC kr kr (hP.at 0 rfl))⟩)
theorem C49 (v : ∀ (p_ : Api_Pick) (cap1 : List Int), preP1 p_ cap1 → VC49 p_ cap1 (fun r => r = verdict_reader_picks_1 p_ cap1)) : S49 := by
 intro w χ p_ cap1 a1 c1  b1 i1 hp h1 hc1 hA
 refine (W49 w χ p_ cap1 a1 c1  b1 i1 _ (v p_ cap1 hp) h1 hc1 hA).mono ?_
 rintro _ _ _ _ ⟨r, rfl, h⟩
 exact h
theorem W72_49 (k49 : S49) (w0 : World) (χ0 : Nat → Nat) (s_ : List Api_Pick) (cap1 : List Int) (a1 : Option Addr) (c1 : Nat) (a2 : Option Addr) (c2 : Nat) (b1 : Nat) (i1 : Nat) (Q : Int → Prop) (hm : VC72_49 s_ cap1 Q) (h1 : RS tApi_Pick w0 χ0 a1 s_ c1) (h2 : RS tI w0 χ0 a2 cap1 c2) (hc1 : Cell w0 χ0 b1 i1 50 [.slice a2 cap1.length c2]) (hA : Apart [i1]) :
  Ret Tryz.prog 72 #[.slice a1 s_.length c1, .func (.func 49) #[] #[.pointer (some ⟨b1, 0, none⟩)]] (pR [i1]) w0 χ0 (fun w χ' v => ∃ r, Q r ∧ v = .int .i64 r ∧ Cell w χ' b1 i1 50 [.slice a2 cap1.length c2]) := by
 unfold VC72_49 at hm
 replace hm := hm (h1.sm kr)
 replace hm := hm (h2.sm kr)
 refine enterR Tryz.func72 rfl (f0of [(i1, 901)]) (fun id => (bif Nat.beq id 901 then b1 else 0)) (args := [Sl a1 s_ c1, .f (.func 49) [] [.p 901 0]]) (bxs := [(901, (50, [Sl a2 cap1 c2]))]) kr rfl (BoxesOK.cons kr (hc1.map (f0of_at 0 hA.1 rfl)) BoxesOK.nil) (f0of_0 (fun q hq => (hA.2 q.1 (List.mem_map.2 ⟨q, hq, rfl⟩)).1)) ?_
 intro a hS hO hM
 have hP : Pin [(901, b1)] (fun id => (bif Nat.beq id 901 then b1 else 0)) := by intro q hq; simp at hq; rcases hq with rfl <;> rfl
 generalize (fun id => (bif Nat.beq id 901 then b1 else 0)) = ρ at hS hP
 clear hc1
 replace h1 := h1.m0 hM
 replace h2 := h2.m0 hM
 clear hM
 refine rP T hS ⟨[(0, Sl a1 s_ c1), (1, .f (.func 49) [] [.p 901 0])], [(901, (50, [Sl a2 cap1 c2]))]⟩ fun a hS => ?_
 refine wcut (fun a w => ∃ (ρ : Nat → Nat) (χ : Nat → Nat), VC72_49_J1 Q ∧ St Tryz.f72.ntmps ⟨[], [(901, (50, [Sl a2 cap1 c2]))]⟩ ρ a w χ ∧ OldR (f0of [(i1, 901)]) w0 χ0 w χ ∧ Pin [(901, b1)] ρ ∧ RS tI w χ a2 cap1 c2) ?_ ?_
 ·refine rP T hS ⟨[(0, Sl a1 s_ c1), (1, .f (.func 49) [] [.p 901 0]), (7, I (lN s_)), (8, I 0)], [(901, (50, [Sl a2 cap1 c2]))]⟩ fun a hS => ?_
  refine wblock ?_
  obtain ⟨I1, μ1, hm0, hm⟩ := hm
  refine wloop (σ := Int) (fun s a w => ∃ (ρ : Nat → Nat) (χ : Nat → Nat), I1 s ∧ St Tryz.f72.ntmps ⟨[(0, Sl a1 s_ c1), (1, .f (.func 49) [] [.p 901 0]), (7, I (lN s_)), (8, I s)], [(901, (50, [Sl a2 cap1 c2]))]⟩ ρ a w χ ∧ OldR (f0of [(i1, 901)]) w0 χ0 w χ ∧ Pin [(901, b1)] ρ ∧ RS tApi_Pick w χ a1 s_ c1 ∧ RS tI w χ a2 cap1 c2) (fun s => μ1 s) (0) ?_ ?_
  ·exact ⟨ρ, _, hm0, hS.sl _, hO, hP, h1, h2⟩
  rintro x_103 a w114 ⟨ρ, χ113, hI, hS, hO, hP, h102, h104⟩
  replace hm := hm x_103 hI
  clear hI hm0
  refine rP T hS ⟨[(0, Sl a1 s_ c1), (1, .f (.func 49) [] [.p 901 0]), (7, I (lN s_)), (8, I x_103), (9, B (decide (x_103 < (lN s_))))], [(901, (50, [Sl a2 cap1 c2]))]⟩ fun a hS => ?_
  refine wseq ?_
  refine wcond hS (b := decide (x_103 < (lN s_))) kr (fun hb => ?_) (fun hb => ?_)
  ·replace hm := hm.1 hb
   refine wskip (wseq ?_)
   refine wblock ?_
   refine rP T hS ⟨[(0, Sl a1 s_ c1), (1, .f (.func 49) [] [.p 901 0]), (5, I x_103), (7, I (lN s_)), (8, I x_103)], [(901, (50, [Sl a2 cap1 c2]))]⟩ fun a hS => ?_
   refine regO ?_
   refine oP T hS 3 ⟨[(0, Sl a1 s_ c1), (1, .f (.func 49) [] [.p 901 0]), (5, I x_103), (7, I (lN s_)), (8, I x_103), (11, .f (.func 49) [] [.p 901 0]), (12, Sl a1 s_ c1), (13, I x_103)], [(901, (50, [Sl a2 cap1 c2]))]⟩ fun a hS => ?_
   obtain ⟨hq, hm⟩ := hm
   refine op1 (index (e := 44) (k := .i64) T hS kr kr kr kr h102 kr kr hq.1 hq.2 ?_)
   intro A105 a h106 hS
   refine op1 (loadA T hS kr kr kr h106 kr kr ?_)
   intro v107 a hv hS
   subst hv
   obtain ⟨hq, hm⟩ := hm
   refine op1 (callCR (fi := []) (cp := [.p 901 0]) hS kr kr hb49 kr kr (k49 _ _ (gi s_ x_103) cap1 a2 c2 (ρ 901) 901 hq h104 (hS.cell (id := 901) (t := 50) (cs := [Sl a2 cap1 c2]) kr) ⟨by decide, by decide⟩) ?_)
   intro v108 a w109 χ110 hE hp hS
   replace hO := hO.mv hE rfl rfl
   replace h102 := h102.mv hE rfl
   replace h104 := h104.mv hE rfl
   replace h106 := h106.mv hE rfl
   obtain ⟨hp, hc112⟩ := hp
   obtain ⟨r111, hr⟩ : ∃ r, verdict_reader_picks_1 (gi s_ x_103) cap1 = r := ⟨_, rfl⟩
   replace hm := hm r111 hr
   rw [hr] at hp
   clear hr
   subst hp
   replace hS := hS.addbox (id := 901) (t := 50) (cs := [Sl a2 cap1 c2]) kr hc112
   clear hc112
   refine doneK ?_
   refine wcond hS (b := r111) kr (fun hb => ?_) (fun hb => ?_)
   ·replace hm := hm.1 hb
    refine rP T hS ⟨[(4, I x_103)], [(901, (50, [Sl a2 cap1 c2]))]⟩ fun a hS => ?_
    refine wret ?_
    exact finR T hS hO (fun c h => f0of_zero kr h) (fun c h => f0of_else (l := [(i1, 901)]) h) (f1of [(i1, 901)]) rfl (r := [.int .i64 x_103]) kr (fun χ' hM hC => ⟨x_103, hm, rfl, ((hS.cell (id := 901) (t := 50) (cs := [Sl a2 cap1 c2]) kr).out (f := (f1of [(i1, 901)])) hC kr kr (hP.at 0 rfl))⟩)
   replace hm := hm.2 hb
   refine wskip ?_
   refine region (eP T hS ⟨[(0, Sl a1 s_ c1), (1, .f (.func 49) [] [.p 901 0]), (7, I (lN s_)), (8, I (wR (x_103 + 1)))], [(901, (50, [Sl a2 cap1 c2]))]⟩ fun a hS => ?_)
   exact ⟨wR (x_103 + 1), ⟨ρ, _, hm.1, hS.sl _, hO, hP, h102, h104⟩, hm.2⟩
  replace hm := hm.2 hb
  refine wexit (by rfl) ?_
  exact ⟨ρ, _, hm, hS.sl _, hO, hP, h104⟩
 rintro a w116 ⟨ρ, χ115, hm, hS, hO, hP, h101⟩
 unfold VC72_49_J1 at hm
 refine rP T hS ⟨[(4, I (-1))], [(901, (50, [Sl a2 cap1 c2]))]⟩ fun a hS => ?_
 refine wret ?_
 exact finR T hS hO (fun c h => f0of_zero kr h) (fun c h => f0of_else (l := [(i1, 901)]) h) (f1of [(i1, 901)]) rfl (r := [.int .i64 (-1)]) kr (fun χ' hM hC => ⟨(-1), hm, rfl, ((hS.cell (id := 901) (t := 50) (cs := [Sl a2 cap1 c2]) kr).out (f := (f1of [(i1, 901)])) hC kr kr (hP.at 0 rfl))⟩)
theorem C72_49 (k49 : S49) (v : ∀ (s_ : List Api_Pick) (cap1 : List Int), preP1I s_ cap1 → VC72_49 s_ cap1 (fun r => r = slices_IndexFunc_api_Pick_api_Pick_verdict_reader_picks_1 s_ cap1)) : S72_49 := by
 intro w χ s_ cap1 a1 c1 a2 c2  b1 i1 hp h1 h2 hc1 hA
 refine (W72_49 k49 w χ s_ cap1 a1 c1 a2 c2  b1 i1 _ (v s_ cap1 hp) h1 h2 hc1 hA).mono ?_
 rintro _ _ _ _ ⟨r, rfl, h⟩
 exact h
theorem W48_49 (k72_49 : S72_49) (w0 : World) (χ0 : Nat → Nat) (s_ : List Api_Pick) (cap1 : List Int) (a1 : Option Addr) (c1 : Nat) (a2 : Option Addr) (c2 : Nat) (b1 : Nat) (i1 : Nat) (Q : Bool → Prop) (hm : VC48_49 s_ cap1 Q) (h1 : RS tApi_Pick w0 χ0 a1 s_ c1) (h2 : RS tI w0 χ0 a2 cap1 c2) (hc1 : Cell w0 χ0 b1 i1 50 [.slice a2 cap1.length c2]) (hA : Apart [i1]) :
  Ret Tryz.prog 48 #[.slice a1 s_.length c1, .func (.func 49) #[] #[.pointer (some ⟨b1, 0, none⟩)]] (pR [i1]) w0 χ0 (fun w χ' v => ∃ r, Q r ∧ v = .bool r ∧ Cell w χ' b1 i1 50 [.slice a2 cap1.length c2]) := by
 unfold VC48_49 at hm
 replace hm := hm (h1.sm kr)
 replace hm := hm (h2.sm kr)
 refine enterR Tryz.func48 rfl (f0of [(i1, 901)]) (fun id => (bif Nat.beq id 901 then b1 else 0)) (args := [Sl a1 s_ c1, .f (.func 49) [] [.p 901 0]]) (bxs := [(901, (50, [Sl a2 cap1 c2]))]) kr rfl (BoxesOK.cons kr (hc1.map (f0of_at 0 hA.1 rfl)) BoxesOK.nil) (f0of_0 (fun q hq => (hA.2 q.1 (List.mem_map.2 ⟨q, hq, rfl⟩)).1)) ?_
 intro a hS hO hM
 have hP : Pin [(901, b1)] (fun id => (bif Nat.beq id 901 then b1 else 0)) := by intro q hq; simp at hq; rcases hq with rfl <;> rfl
 generalize (fun id => (bif Nat.beq id 901 then b1 else 0)) = ρ at hS hP
 clear hc1
 replace h1 := h1.m0 hM
 replace h2 := h2.m0 hM
 clear hM
 refine rP T hS ⟨[(0, Sl a1 s_ c1), (1, .f (.func 49) [] [.p 901 0])], [(901, (50, [Sl a2 cap1 c2]))]⟩ fun a hS => ?_
 refine regO ?_
 refine oP T hS 2 ⟨[(5, Sl a1 s_ c1), (6, .f (.func 49) [] [.p 901 0])], [(901, (50, [Sl a2 cap1 c2]))]⟩ fun a hS => ?_
 obtain ⟨hq, hm⟩ := hm
 refine op1 (callR hS kr kr hb72 kr (k72_49 _ _ s_ cap1 a1 c1 a2 c2 (ρ 901) 901 hq h1 h2 (hS.cell (id := 901) (t := 50) (cs := [Sl a2 cap1 c2]) kr) ⟨by decide, by decide⟩) ?_)
 intro v101 a w102 χ103 hE hp hS
 replace hO := hO.mv hE rfl rfl
 replace h1 := h1.mv hE rfl
 replace h2 := h2.mv hE rfl
 obtain ⟨hp, hc105⟩ := hp
 obtain ⟨r104, hr⟩ : ∃ r, slices_IndexFunc_api_Pick_api_Pick_verdict_reader_picks_1 s_ cap1 = r := ⟨_, rfl⟩
 replace hm := hm r104 hr
 rw [hr] at hp
 clear hr
 subst hp
 replace hS := hS.addbox (id := 901) (t := 50) (cs := [Sl a2 cap1 c2]) kr hc105
 clear hc105
 refine eP T hS ⟨[(4, B (decide (r104 ≥ 0)))], [(901, (50, [Sl a2 cap1 c2]))]⟩ fun a hS => ?_
 refine wret ?_
 exact finR T hS hO (fun c h => f0of_zero kr h) (fun c h => f0of_else (l := [(i1, 901)]) h) (f1of [(i1, 901)]) rfl (r := [.bool (decide (r104 ≥ 0))]) kr (fun χ' hM hC => ⟨(decide (r104 ≥ 0)), hm, rfl, ((hS.cell (id := 901) (t := 50) (cs := [Sl a2 cap1 c2]) kr).out (f := (f1of [(i1, 901)])) hC kr kr (hP.at 0 rfl))⟩)
theorem C48_49 (k72_49 : S72_49) (v : ∀ (s_ : List Api_Pick) (cap1 : List Int), preP1I s_ cap1 → VC48_49 s_ cap1 (fun r => r = slices_ContainsFunc_api_Pick_api_Pick_verdict_reader_picks_1 s_ cap1)) : S48_49 := by
 intro w χ s_ cap1 a1 c1 a2 c2  b1 i1 hp h1 h2 hc1 hA
 refine (W48_49 k72_49 w χ s_ cap1 a1 c1 a2 c2  b1 i1 _ (v s_ cap1 hp) h1 h2 hc1 hA).mono ?_
 rintro _ _ _ _ ⟨r, rfl, h⟩
 exact h
theorem W19 (k22 : S22) (k47 : S47) (k48_49 : S48_49) (w0 : World) (χ0 : Nat → Nat) (n_ : Int) (cap1 : Verdict_reader) (a1 : Option Addr) (c1 : Nat) (b1 : Nat) (i1 : Nat) (Q : (List Api_Pick) × Verdict_reader → Prop) (hm : VC19 n_ cap1 Q) (h1 : RS (tSlice tToken_Token) w0 χ0 a1 cap1.rest c1) (hc1 : Cell w0 χ0 b1 i1 49 [.slice a1 cap1.rest.length c1, .int .i64 cap1.end_, .int .i64 cap1.at_, .int .i64 cap1.e]) (hA : Apart [i1]) :
  Ret Tryz.prog 19 #[.pointer (some ⟨b1, 0, none⟩), .int .i64 n_] (pR [i1]) w0 χ0 (fun w χ' v => ∃ r, Q r ∧ ∃ (ra1 : Option Addr) (rc1 : Nat) (ra2 : Option Addr) (rc2 : Nat), v = .slice ra1 r.1.length rc1 ∧ RS tApi_Pick w χ' ra1 r.1 rc1 ∧ RS (tSlice tToken_Token) w χ' ra2 r.2.rest rc2 ∧ Cell w χ' b1 i1 49 [.slice ra2 r.2.rest.length rc2, .int .i64 r.2.end_, .int .i64 r.2.at_, .int .i64 r.2.e]) := by
 unfold VC19 at hm
 replace hm := hm (h1.sm kr)
 refine enterR Tryz.func19 rfl (f0of [(i1, 901)]) (fun id => (bif Nat.beq id 901 then b1 else 0)) (args := [Pt 901 0, I n_]) (bxs := [(901, (49, [Sl a1 cap1.rest c1, I cap1.end_, I cap1.at_, I cap1.e]))]) kr rfl (BoxesOK.cons kr (hc1.map (f0of_at 0 hA.1 rfl)) BoxesOK.nil) (f0of_0 (fun q hq => (hA.2 q.1 (List.mem_map.2 ⟨q, hq, rfl⟩)).1)) ?_
 intro a hS hO hM
 have hP : Pin [(901, b1)] (fun id => (bif Nat.beq id 901 then b1 else 0)) := by intro q hq; simp at hq; rcases hq with rfl <;> rfl
 generalize (fun id => (bif Nat.beq id 901 then b1 else 0)) = ρ at hS hP
 clear hc1
 replace h1 := h1.m0 hM
 clear hM
 refine rP T hS ⟨[(0, Pt 901 0), (1, I n_)], [(901, (49, [Sl a1 cap1.rest c1, I cap1.end_, I cap1.at_, I cap1.e]))]⟩ fun a hS => ?_
 refine rP T hS ⟨[(0, Pt 901 0), (1, I n_), (5, V (.slice none 0 0))], [(901, (49, [Sl a1 cap1.rest c1, I cap1.end_, I cap1.at_, I cap1.e]))]⟩ fun a hS => ?_
 refine rP T hS ⟨[(0, Pt 901 0), (1, I n_), (5, V (.slice none 0 0)), (6, .f (.func 22) [.p 901 0] [])], [(901, (49, [Sl a1 cap1.rest c1, I cap1.end_, I cap1.at_, I cap1.e]))]⟩ fun a hS => ?_
 refine wcut (fun a w => ∃ (ρ : Nat → Nat) (χ : Nat → Nat) (out_101 : List Api_Pick) (x_105 : List (List Token_Token)) (x_109 : Int) (x_110 : Int) (x_111 : Int) (a102 : Option Addr) (c103 : Nat) (a106 : Option Addr) (c107 : Nat), VC19_J1 Q out_101 x_105 x_109 x_110 x_111 ∧ St Tryz.f19.ntmps ⟨[(5, Sl a102 out_101 c103)], [(901, (49, [Sl a106 x_105 c107, I x_109, I x_110, I x_111]))]⟩ ρ a w χ ∧ OldR (f0of [(i1, 901)]) w0 χ0 w χ ∧ Pin [(901, b1)] ρ ∧ OS tApi_Pick 44 w χ 1005 a102 out_101 c103 ∧ RS (tSlice tToken_Token) w χ a106 x_105 c107) ?_ ?_
 ·refine rP T hS ⟨[(0, Pt 901 0), (5, V (.slice none 0 0)), (6, .f (.func 22) [.p 901 0] []), (11, I n_), (12, I 0)], [(901, (49, [Sl a1 cap1.rest c1, I cap1.end_, I cap1.at_, I cap1.e]))]⟩ fun a hS => ?_
  refine wblock ?_
  obtain ⟨I1, μ1, hm0, hm⟩ := hm
  refine wloop (σ := (List Api_Pick) × Int × (List (List Token_Token)) × Int × Int × Int) (fun s a w => ∃ (ρ : Nat → Nat) (χ : Nat → Nat) (a115 : Option Addr) (c116 : Nat) (a120 : Option Addr) (c121 : Nat), I1 s.1 s.2.1 s.2.2.1 s.2.2.2.1 s.2.2.2.2.1 s.2.2.2.2.2 ∧ St Tryz.f19.ntmps ⟨[(0, Pt 901 0), (5, Sl a115 s.1 c116), (6, .f (.func 22) [.p 901 0] []), (11, I n_), (12, I s.2.1)], [(901, (49, [Sl a120 s.2.2.1 c121, I s.2.2.2.1, I s.2.2.2.2.1, I s.2.2.2.2.2]))]⟩ ρ a w χ ∧ OldR (f0of [(i1, 901)]) w0 χ0 w χ ∧ Pin [(901, b1)] ρ ∧ OS tApi_Pick 44 w χ 1005 a115 s.1 c116 ∧ RS (tSlice tToken_Token) w χ a120 s.2.2.1 c121) (fun s => μ1 s.1 s.2.1 s.2.2.1 s.2.2.2.1 s.2.2.2.2.1 s.2.2.2.2.2) (⟨[], 0, cap1.rest, cap1.end_, cap1.at_, cap1.e⟩) ?_ ?_
  ·exact ⟨ρ, _, none, 0, a1, c1, hm0, hS.sl _, hO, hP, (OS.nil _ _ _ _ _), h1⟩
  rintro ⟨out_114, x_118, x_119, x_123, x_124, x_125⟩ a w189 ⟨ρ, χ188, a115, c116, a120, c121, hI, hS, hO, hP, h117, h122⟩
  replace hm := hm out_114 x_118 x_119 x_123 x_124 x_125 hI
  clear hI hm0
  refine rP T hS ⟨[(0, Pt 901 0), (5, Sl a115 out_114 c116), (6, .f (.func 22) [.p 901 0] []), (11, I n_), (12, I x_118), (13, B (decide (x_118 < n_)))], [(901, (49, [Sl a120 x_119 c121, I x_123, I x_124, I x_125]))]⟩ fun a hS => ?_
  refine wseq ?_
  refine wcond hS (b := decide (x_118 < n_)) kr (fun hb => ?_) (fun hb => ?_)
  ·replace hm := hm.1 hb
   refine wskip (wseq ?_)
   refine wblock ?_
   refine regO ?_
   refine oP T hS 1 ⟨[(0, Pt 901 0), (5, Sl a115 out_114 c116), (6, .f (.func 22) [.p 901 0] []), (11, I n_), (12, I x_118), (14, .f (.func 22) [.p 901 0] [])], [(901, (49, [Sl a120 x_119 c121, I x_123, I x_124, I x_125]))]⟩ fun a hS => ?_
   refine op1 (callCR (fi := [.p 901 0]) (cp := []) hS kr kr hb22 kr kr (k22 _ _ (⟨x_119, x_123, x_124, x_125⟩ : Verdict_reader) a120 c121 (ρ 901) 901 h122 (hS.cell (id := 901) (t := 49) (cs := [Sl a120 x_119 c121, I x_123, I x_124, I x_125]) kr) ⟨by decide, by decide⟩) ?_)
   intro v126 a w127 χ128 hE hp hS
   replace hO := hO.mv hE rfl rfl
   replace h117 := h117.mv hE rfl rfl
   replace h122 := h122.mv hE rfl
   obtain ⟨a130, c131, a133, c134, hp, h132, h135, hc136⟩ := hp
   obtain ⟨r129, hr⟩ : ∃ r, verdict_reader_next (⟨x_119, x_123, x_124, x_125⟩ : Verdict_reader) = r := ⟨_, rfl⟩
   replace hm := hm r129 hr
   rw [hr] at hp h132 h135 hc136
   clear hr
   subst hp
   replace hm := hm (h132.sm kr)
   replace hm := hm (h135.sm kr)
   replace hS := hS.addbox (id := 901) (t := 49) (cs := [Sl a133 r129.2.rest c134, I r129.2.end_, I r129.2.at_, I r129.2.e]) kr hc136
   clear hc136
   refine eP T hS ⟨[(0, Pt 901 0), (5, Sl a115 out_114 c116), (6, .f (.func 22) [.p 901 0] []), (7, Sl a130 r129.1 c131), (11, I n_), (12, I x_118)], [(901, (49, [Sl a133 r129.2.rest c134, I r129.2.end_, I r129.2.at_, I r129.2.e]))]⟩ fun a hS => ?_
   refine regO ?_
   refine oP T hS 2 ⟨[(0, Pt 901 0), (5, Sl a115 out_114 c116), (6, .f (.func 22) [.p 901 0] []), (7, Sl a130 r129.1 c131), (11, I n_), (12, I x_118), (16, Pt 901 0), (17, Sl a130 r129.1 c131)], [(901, (49, [Sl a133 r129.2.rest c134, I r129.2.end_, I r129.2.at_, I r129.2.e]))]⟩ fun a hS => ?_
   refine op1 (lit (E := 3) (col := 0) (T := tI) (vals := [.int .i64 0, .int .i64 0]) (ys := [0, 0]) T hS kr kr kr kr (by exact ⟨rfl, rfl, trivial⟩) rfl kr kr kr kr ?_)
   intro b137 a w138 χ139 hE h140 hN hS
   clear hN
   replace hO := hO.mv hE rfl rfl
   replace h117 := h117.mv hE rfl rfl
   replace h132 := h132.mv hE rfl
   replace h135 := h135.mv hE rfl
   replace h140 := h140.rs0
   refine op1 (lit (E := 3) (col := 0) (T := tI) (vals := [.int .i64 63, .int .i64 1000000]) (ys := [63, 1000000]) T hS kr kr kr kr (by exact ⟨rfl, rfl, trivial⟩) rfl kr kr kr kr ?_)
   intro b141 a w142 χ143 hE h144 hN hS
   clear hN
   replace hO := hO.mv hE rfl rfl
   replace h117 := h117.mv hE rfl rfl
   replace h132 := h132.mv hE rfl
   replace h135 := h135.mv hE rfl
   replace h140 := h140.mv hE rfl
   replace h144 := h144.rs0
   obtain ⟨hq, hm⟩ := hm
   refine op1 (callR hS kr kr hb47 kr (k47 _ _ r129.1 ([112, 105, 99, 107] : List UInt8) [0, 0] [63, 1000000] r129.2 a130 c131 (some ⟨b137, 0, none⟩) 2 (some ⟨b141, 0, none⟩) 2 a133 c134 (ρ 901) 901 hq h132 h140 h144 h135 (hS.cell (id := 901) (t := 49) (cs := [Sl a133 r129.2.rest c134, I r129.2.end_, I r129.2.at_, I r129.2.e]) kr) ⟨by decide, by decide⟩) ?_)
   intro v145 a w146 χ147 hE hp hS
   replace hO := hO.mv hE rfl rfl
   replace h117 := h117.mv hE rfl rfl
   replace h132 := h132.mv hE rfl
   replace h135 := h135.mv hE rfl
   replace h140 := h140.mv hE rfl
   replace h144 := h144.mv hE rfl
   obtain ⟨a149, c150, a152, c153, hp, h151, h154, hc155⟩ := hp
   obtain ⟨r148, hr⟩ : ∃ r, verdict_reader_numbers r129.1 ([112, 105, 99, 107] : List UInt8) [0, 0] [63, 1000000] r129.2 = r := ⟨_, rfl⟩
   replace hm := hm r148 hr
   rw [hr] at hp h151 h154 hc155
   clear hr
   subst hp
   replace hm := hm (h151.sm kr)
   replace hm := hm (h154.sm kr)
   replace hS := hS.addbox (id := 901) (t := 49) (cs := [Sl a152 r148.2.rest c153, I r148.2.end_, I r148.2.at_, I r148.2.e]) kr hc155
   clear hc155
   refine eM T hS ⟨[(0, Pt 901 0), (5, Sl a115 out_114 c116), (6, .f (.func 22) [.p 901 0] []), (7, Sl a130 r129.1 c131), (8, Pt 9 0), (11, I n_), (12, I x_118)], [(9, (50, [Sl a149 r148.1 c150])), (901, (49, [Sl a152 r148.2.rest c153, I r148.2.end_, I r148.2.at_, I r148.2.e]))]⟩ fun ρ a w186 χ187 hS hE hr => ?_
   replace hO := hO.mv hE rfl rfl
   replace h117 := h117.mv hE rfl rfl
   replace h132 := h132.mv hE rfl
   replace h151 := h151.mv hE rfl
   replace h154 := h154.mv hE rfl
   replace hP := hP.mv hr kr
   clear hE hr
   refine wseq (rP T hS ⟨[(0, Pt 901 0), (5, Sl a115 out_114 c116), (6, .f (.func 22) [.p 901 0] []), (7, Sl a130 r129.1 c131), (8, Pt 9 0), (11, I n_), (12, I x_118), (25, B (r148.2.e != 0))], [(9, (50, [Sl a149 r148.1 c150])), (901, (49, [Sl a152 r148.2.rest c153, I r148.2.end_, I r148.2.at_, I r148.2.e]))]⟩ fun a hS => ?_)
   refine wcond hS (b := (r148.2.e != 0)) kr (fun hb => ?_) (fun hb => ?_)
   ·replace hm := hm.1 hb
    refine rP T hS ⟨[(4, V (.slice none 0 0))], [(901, (49, [Sl a152 r148.2.rest c153, I r148.2.end_, I r148.2.at_, I r148.2.e]))]⟩ fun a hS => ?_
    refine wret ?_
    exact finR T hS hO (fun c h => f0of_zero kr h) (fun c h => f0of_else (l := [(i1, 901)]) h) (f1of [(i1, 901)]) rfl (r := [.slice none 0 0]) kr (fun χ' hM hC => ⟨([], r148.2), hm, none, 0, a152, c153, rfl, RS.empty _ _ _, h154.m0 hM, ((hS.cell (id := 901) (t := 49) (cs := [Sl a152 r148.2.rest c153, I r148.2.end_, I r148.2.at_, I r148.2.e]) kr).out (f := (f1of [(i1, 901)])) hC kr kr (hP.at 0 rfl))⟩)
   replace hm := hm.2 hb
   refine wskip (wseq ?_)
   refine regO ?_
   refine oP T hS 2 ⟨[(0, Pt 901 0), (5, Sl a115 out_114 c116), (6, .f (.func 22) [.p 901 0] []), (7, Sl a130 r129.1 c131), (8, Pt 9 0), (11, I n_), (12, I x_118), (26, Sl a115 out_114 c116), (27, .f (.func 49) [] [.p 9 0])], [(9, (50, [Sl a149 r148.1 c150])), (901, (49, [Sl a152 r148.2.rest c153, I r148.2.end_, I r148.2.at_, I r148.2.e]))]⟩ fun a hS => ?_
   have hb160 := (hS.cell (id := 9) (t := 50) (cs := [Sl a149 r148.1 c150]) kr)
   obtain ⟨hq, hm⟩ := hm
   refine op1 (callR hS kr kr hb48 kr (Ret.unlendR kr (k48_49 _ (lend 1005 _) out_114 r148.1 a115 c116 a149 c150 (ρ 9) 9 hq h117.lend (h151.m0 (M0.lend 1005)) (hb160.lend kr) ⟨by decide, by decide⟩)) ?_)
   intro v156 a w157 χ158 hE hp hS
   replace hO := hO.mv hE rfl rfl
   replace h117 := h117.mv hE rfl rfl
   replace h132 := h132.mv hE rfl
   replace h151 := h151.mv hE rfl
   replace h154 := h154.mv hE rfl
   obtain ⟨hkeep, _, hp⟩ := hp
   obtain ⟨hp, hc161⟩ := hp
   replace hc161 := hc161.back hb160 hkeep
   clear hkeep hb160
   obtain ⟨r159, hr⟩ : ∃ r, slices_ContainsFunc_api_Pick_api_Pick_verdict_reader_picks_1 out_114 r148.1 = r := ⟨_, rfl⟩
   replace hm := hm r159 hr
   rw [hr] at hp
   clear hr
   subst hp
   replace hS := hS.addbox (id := 9) (t := 50) (cs := [Sl a149 r148.1 c150]) kr hc161
   clear hc161
   refine doneK ?_
   refine wcond hS (b := r159) kr (fun hb => ?_) (fun hb => ?_)
   ·replace hm := hm.1 hb
    refine regO ?_
    refine oP T hS 3 ⟨[(29, Pt 901 0), (30, Pt 901 0), (31, Sl a130 r129.1 c131)], [(901, (49, [Sl a152 r148.2.rest c153, I r148.2.end_, I r148.2.at_, I r148.2.e]))]⟩ fun a hS => ?_
    obtain ⟨hq, hm⟩ := hm
    refine op1 (index (e := 60) (k := .i64) T hS kr kr kr kr h132 kr kr hq.1 hq.2 ?_)
    intro A162 a h163 hS
    refine op1 (fieldA (off := 1) (fsz := 1) (ft := 3) (TF := tI) (y := (gi r129.1 0).At) T hS kr kr kr h163 kr kr kr (fun cs h => Token_Token_f1 h) ?_)
    intro A164 a h165 hS
    refine op1 (load1 T hS kr kr kr h165 rfl kr ?_)
    intro v166 a hv hS
    cases hv
    refine eM T hS ⟨[], [(901, (49, [Sl a152 r148.2.rest c153, I r148.2.end_, I ((gi r129.1 0).At), I 21]))]⟩ fun ρ a w167 χ168 hS hE hr => ?_
    replace hO := hO.mv hE rfl rfl
    replace h154 := h154.mv hE rfl
    replace hP := hP.mv hr kr
    clear hE hr
    refine rP T hS ⟨[(4, V (.slice none 0 0))], [(901, (49, [Sl a152 r148.2.rest c153, I r148.2.end_, I ((gi r129.1 0).At), I 21]))]⟩ fun a hS => ?_
    refine wret ?_
    exact finR T hS hO (fun c h => f0of_zero kr h) (fun c h => f0of_else (l := [(i1, 901)]) h) (f1of [(i1, 901)]) rfl (r := [.slice none 0 0]) kr (fun χ' hM hC => ⟨([], (⟨r148.2.rest, r148.2.end_, (gi r129.1 0).At, 21⟩ : Verdict_reader)), hm, none, 0, a152, c153, rfl, RS.empty _ _ _, h154.m0 hM, ((hS.cell (id := 901) (t := 49) (cs := [Sl a152 r148.2.rest c153, I r148.2.end_, I ((gi r129.1 0).At), I 21]) kr).out (f := (f1of [(i1, 901)])) hC kr kr (hP.at 0 rfl))⟩)
   replace hm := hm.2 hb
   refine wskip ?_
   refine drawnX [9] mixed hS ?_
   intro w169 χ170 hS hE hD hH
   replace hO := hO.mv hE rfl rfl
   replace h117 := h117.mv hE rfl rfl
   replace h151 := h151.mv hE rfl
   replace h154 := h154.mv hE rfl
   refine tk T [0, 1, 4] [9] hS hH #[true, true, false, false, true, false, false, false, false, false, false] 8 ⟨[(0, Pt 901 0), (5, Sl a115 out_114 c116), (6, .f (.func 22) [.p 901 0] []), (11, I n_), (12, I x_118), (39, Sl a115 out_114 c116), (40, Sl a149 r148.1 c150), (43, Sl a149 r148.1 c150)], [(9, (50, [Sl a149 r148.1 c150])), (901, (49, [Sl a152 r148.2.rest c153, I r148.2.end_, I r148.2.at_, I r148.2.e]))]⟩ fun a hS => ?_
   obtain ⟨hq, hm⟩ := hm
   refine dindex (e := 3) (k := .i64) T 2 hS kr kr kr (by rfl) kr hH kr kr h151 kr kr hq.1 hq.2 ?_
   intro A171 a h172 hS
   have h172b := h172.here
   refine dload1 T 3 hS kr kr kr (by rfl) kr hH kr h172 h172b rfl kr ?_
   intro v173 a hv hS
   cases hv
   obtain ⟨hq, hm⟩ := hm
   refine dindex (e := 3) (k := .i64) T 5 hS kr kr kr (by rfl) kr hH kr kr h151 kr kr hq.1 hq.2 ?_
   intro A174 a h175 hS
   have h175b := h175.here
   refine dload1 T 6 hS kr kr kr (by rfl) kr hH kr h175 h175b rfl kr ?_
   intro v176 a hv hS
   cases hv
   refine tk T [7] [9] hS hH #[true, true, true, true, true, true, true, true, false, false, false] 3 ⟨[(0, Pt 901 0), (5, Sl a115 out_114 c116), (6, .f (.func 22) [.p 901 0] []), (11, I n_), (12, I x_118), (39, Sl a115 out_114 c116), (46, V (.agg #[.int .i64 (gi r148.1 0), .int .i64 (gi r148.1 1)]))], [(9, (50, [Sl a149 r148.1 c150])), (901, (49, [Sl a152 r148.2.rest c153, I r148.2.end_, I r148.2.at_, I r148.2.e]))]⟩ fun a hS => ?_
   refine only 8 kr (by rfl) (lit (E := 44) (col := 0) (T := tApi_Pick) (vals := [.agg #[.int .i64 (gi r148.1 0), .int .i64 (gi r148.1 1)]]) (ys := [(⟨gi r148.1 0, gi r148.1 1⟩ : Api_Pick)]) T hS kr kr kr kr (by exact ⟨rfl, trivial⟩) rfl kr kr kr kr ?_)
   intro b177 a w178 χ179 hE h180 hN hS
   clear hN
   replace hO := hO.mv hE rfl rfl
   replace hD := hD.ev hE rfl
   replace h117 := h117.mv hE rfl rfl
   replace h151 := h151.mv hE rfl
   replace h154 := h154.mv hE rfl
   replace h172 := h172.mv hE rfl
   replace h175 := h175.mv hE rfl
   replace h180 := h180.rs0
   refine andH (Hold.of hS (bks := [9]) kr hD) ?_
   intro hH
   obtain ⟨hq, hm⟩ := hm
   obtain ⟨news, hN⟩ := h180.src
   refine only 9 kr (by rfl) (append (E := 44) (T := tApi_Pick) (col := 1005) (xs := out_114) T hS kr kr kr kr h117 hN kr kr kr kr hq ?_)
   intro a184 c185 a w181 χ182 hE h183 hS
   clear hq hN
   clear h117
   replace hO := hO.mv hE rfl rfl
   replace hD := hD.ev hE rfl
   replace h151 := h151.mv hE rfl
   replace h154 := h154.mv hE rfl
   replace h172 := h172.mv hE rfl
   replace h175 := h175.mv hE rfl
   replace h180 := h180.mv hE rfl
   replace hS := hS.sl ⟨[(0, Pt 901 0), (6, .f (.func 22) [.p 901 0] []), (11, I n_), (12, I x_118), (46, V (.agg #[.int .i64 (gi r148.1 0), .int .i64 (gi r148.1 1)])), (47, Sl (some ⟨b177, 0, none⟩) [(⟨gi r148.1 0, gi r148.1 1⟩ : Api_Pick)] 1), (48, Sl a184 (out_114 ++ [(⟨gi r148.1 0, gi r148.1 1⟩ : Api_Pick)]) c185)], [(9, (50, [Sl a149 r148.1 c150])), (901, (49, [Sl a152 r148.2.rest c153, I r148.2.end_, I r148.2.at_, I r148.2.e]))]⟩
   refine andH (Hold.of hS (bks := [9]) kr hD) ?_
   intro hH
   refine tk T [10] [9] hS hH #[true, true, true, true, true, true, true, true, true, true, true] 0 ⟨[(0, Pt 901 0), (5, Sl a184 (out_114 ++ [(⟨gi r148.1 0, gi r148.1 1⟩ : Api_Pick)]) c185), (6, .f (.func 22) [.p 901 0] []), (11, I n_), (12, I x_118)], [(9, (50, [Sl a149 r148.1 c150])), (901, (49, [Sl a152 r148.2.rest c153, I r148.2.end_, I r148.2.at_, I r148.2.e]))]⟩ fun a hS => ?_
   refine drawnDone kr ?_
   clear hD hH
   replace hS := hS.sl ⟨[(0, Pt 901 0), (5, Sl a184 (out_114 ++ [(⟨gi r148.1 0, gi r148.1 1⟩ : Api_Pick)]) c185), (6, .f (.func 22) [.p 901 0] []), (11, I n_), (12, I x_118)], [(901, (49, [Sl a152 r148.2.rest c153, I r148.2.end_, I r148.2.at_, I r148.2.e]))]⟩
   refine region (eP T hS ⟨[(0, Pt 901 0), (5, Sl a184 (out_114 ++ [(⟨gi r148.1 0, gi r148.1 1⟩ : Api_Pick)]) c185), (6, .f (.func 22) [.p 901 0] []), (11, I n_), (12, I (wR (x_118 + 1)))], [(901, (49, [Sl a152 r148.2.rest c153, I r148.2.end_, I r148.2.at_, I r148.2.e]))]⟩ fun a hS => ?_)
   exact ⟨⟨out_114 ++ [(⟨gi r148.1 0, gi r148.1 1⟩ : Api_Pick)], wR (x_118 + 1), r148.2.rest, r148.2.end_, r148.2.at_, r148.2.e⟩, ⟨ρ, _, a184, c185, a152, c153, hm.1, hS.sl _, hO, hP, h183, h154⟩, hm.2⟩
  replace hm := hm.2 hb
  refine wexit (by rfl) ?_
  exact ⟨ρ, _, out_114, x_119, x_123, x_124, x_125, a115, c116, a120, c121, hm, hS.sl _, hO, hP, h117, h122⟩
 rintro a w191 ⟨ρ, χ190, out_101, x_105, x_109, x_110, x_111, a102, c103, a106, c107, hm, hS, hO, hP, h104, h108⟩
 unfold VC19_J1 at hm
 refine rP T hS ⟨[(4, Sl a102 out_101 c103)], [(901, (49, [Sl a106 x_105 c107, I x_109, I x_110, I x_111]))]⟩ fun a hS => ?_
 refine wret ?_
 obtain ⟨χ112, hE, hF⟩ := h104.freeze (by decide)
 replace hS := hS.ev hE (xone_box kr)
 replace hO := hO.mv hE rfl rfl
 replace h108 := h108.mv hE rfl
 have h113 := hF; clear hE hF
 exact finR T hS hO (fun c h => f0of_zero kr h) (fun c h => f0of_else (l := [(i1, 901)]) h) (f1of [(i1, 901)]) rfl (r := [.slice a102 out_101.length c103]) kr (fun χ' hM hC => ⟨(out_101, (⟨x_105, x_109, x_110, x_111⟩ : Verdict_reader)), hm, a102, c103, a106, c107, rfl, h113.m0 hM, h108.m0 hM, ((hS.cell (id := 901) (t := 49) (cs := [Sl a106 x_105 c107, I x_109, I x_110, I x_111]) kr).out (f := (f1of [(i1, 901)])) hC kr kr (hP.at 0 rfl))⟩)
theorem C19 (k22 : S22) (k47 : S47) (k48_49 : S48_49) (v : ∀ (n_ : Int) (cap1 : Verdict_reader), preRdP n_ cap1 → VC19 n_ cap1 (fun r => r = verdict_reader_picks n_ cap1)) : S19 := by
 intro w χ n_ cap1 a1 c1  b1 i1 hp h1 hc1 hA
 refine (W19 k22 k47 k48_49 w χ n_ cap1 a1 c1  b1 i1 _ (v n_ cap1 hp) h1 hc1 hA).mono ?_
 rintro _ _ _ _ ⟨r, rfl, h⟩
 exact h
end Go.Proofs.YtkgcdoeldilhaaaGreatDoor
