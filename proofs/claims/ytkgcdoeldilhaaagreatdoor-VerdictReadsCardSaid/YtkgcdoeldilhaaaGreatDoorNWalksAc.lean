/- Walks: each function returns what its condition asks. Condition: the contracts of its callees, handed in. -/
import Derived.Test.YtkgcdoeldilhaaaGreatDoorNWalksS
set_option linter.all false
namespace Go.Proofs.YtkgcdoeldilhaaaGreatDoor
open Go Go.Sv
set_option maxHeartbeats 1000000
theorem W65_66 (k66 : S66) (w0 : World) (χ0 : Nat → Nat) (s1 : List Api_Step) (s2 : List Api_Step) (a1 : Option Addr) (c1 : Nat) (a2 : Option Addr) (c2 : Nat) (Q : Bool → Prop) (hm : VC65_66 s1 s2 Q) (h1 : RS tApi_Step w0 χ0 a1 s1 c1) (h2 : RS tApi_Step w0 χ0 a2 s2 c2) (hA : Apart []) :
  Ret Tryz.prog 65 #[.slice a1 s1.length c1, .slice a2 s2.length c2, .func (.func 66) #[] #[]] (pR []) w0 χ0 (fun w χ' v => ∃ r, Q r ∧ v = .bool r) := by
 unfold VC65_66 at hm
 replace hm := hm (h1.sm kr)
 replace hm := hm (h2.sm kr)
 refine enterR Tryz.func65 rfl (f0of []) (fun id => 0) (args := [Sl a1 s1 c1, Sl a2 s2 c2, .f (.func 66) [] []]) (bxs := []) kr rfl BoxesOK.nil (f0of_0 (fun q hq => (hA.2 q.1 (List.mem_map.2 ⟨q, hq, rfl⟩)).1)) ?_
 intro a hS hO hM
 generalize (fun id : Nat => 0) = ρ at hS
 replace h1 := h1.m0 hM
 replace h2 := h2.m0 hM
 clear hM
 refine rP T hS ⟨[(0, Sl a1 s1 c1), (1, Sl a2 s2 c2), (2, .f (.func 66) [] [])], []⟩ fun a hS => ?_
 refine wseq (rP T hS ⟨[(0, Sl a1 s1 c1), (1, Sl a2 s2 c2), (2, .f (.func 66) [] []), (14, B ((lN s1) != (lN s2)))], []⟩ fun a hS => ?_)
 refine wcond hS (b := ((lN s1) != (lN s2))) kr (fun hb => ?_) (fun hb => ?_)
 ·replace hm := hm.1 hb
  refine rP T hS ⟨[(6, B false)], []⟩ fun a hS => ?_
  refine wret ?_
  exact finR T hS hO (fun c h => f0of_zero kr h) (fun c h => f0of_else (l := []) h) (f1of []) rfl (r := [.bool false]) kr (fun χ' hM hC => ⟨false, hm, rfl⟩)
 replace hm := hm.2 hb
 refine wskip ?_
 refine wcut (fun a w => ∃ (ρ : Nat → Nat) (χ : Nat → Nat), VC65_66_J1 Q ∧ St Tryz.f65.ntmps ⟨[], []⟩ ρ a w χ ∧ OldR (f0of []) w0 χ0 w χ) ?_ ?_
 ·refine rP T hS ⟨[(1, Sl a2 s2 c2), (2, .f (.func 66) [] []), (15, Sl a1 s1 c1), (16, I (lN s1)), (17, I 0)], []⟩ fun a hS => ?_
  refine wblock ?_
  obtain ⟨I1, μ1, hm0, hm⟩ := hm
  refine wloop (σ := Int) (fun s a w => ∃ (ρ : Nat → Nat) (χ : Nat → Nat), I1 s ∧ St Tryz.f65.ntmps ⟨[(1, Sl a2 s2 c2), (2, .f (.func 66) [] []), (15, Sl a1 s1 c1), (16, I (lN s1)), (17, I s)], []⟩ ρ a w χ ∧ OldR (f0of []) w0 χ0 w χ ∧ RS tApi_Step w χ a2 s2 c2 ∧ RS tApi_Step w χ a1 s1 c1) (fun s => μ1 s) (0) ?_ ?_
  ·exact ⟨ρ, _, hm0, hS.sl _, hO, h2, h1⟩
  rintro x_103 a w131 ⟨ρ, χ130, hI, hS, hO, h101, h102⟩
  replace hm := hm x_103 hI
  clear hI hm0
  refine rP T hS ⟨[(1, Sl a2 s2 c2), (2, .f (.func 66) [] []), (15, Sl a1 s1 c1), (16, I (lN s1)), (17, I x_103), (18, B (decide (x_103 < (lN s1))))], []⟩ fun a hS => ?_
  refine wseq ?_
  refine wcond hS (b := decide (x_103 < (lN s1))) kr (fun hb => ?_) (fun hb => ?_)
  ·replace hm := hm.1 hb
   refine wskip (wseq ?_)
   refine wblock ?_
   refine regO ?_
   refine oP T hS 1 ⟨[(1, Sl a2 s2 c2), (2, .f (.func 66) [] []), (15, Sl a1 s1 c1), (16, I (lN s1)), (17, I x_103), (19, I x_103)], []⟩ fun a hS => ?_
   obtain ⟨hq, hm⟩ := hm
   refine op1 (index (e := 98) (k := .i64) T hS kr kr kr kr h102 kr kr hq.1 hq.2 ?_)
   intro A104 a h105 hS
   refine op1 (loadA T hS kr kr kr h105 kr kr ?_)
   intro v106 a hv hS
   obtain ⟨a107, c108, a110, c111, hv, h109, h112⟩ := hv
   subst hv
   replace hm := hm (h109.sm kr)
   replace hm := hm (h112.sm kr)
   refine eM T hS ⟨[(1, Sl a2 s2 c2), (2, .f (.func 66) [] []), (7, I x_103), (8, Pt 9 0), (15, Sl a1 s1 c1), (16, I (lN s1)), (17, I x_103)], [(9, (98, [I ((gi s1 x_103).Kind), I ((gi s1 x_103).Id), Sl a107 ((gi s1 x_103).Lits) c108, Sl a110 ((gi s1 x_103).Hints) c111]))]⟩ fun ρ a w128 χ129 hS hE hr => ?_
   replace hO := hO.mv hE rfl rfl
   replace h101 := h101.mv hE rfl
   replace h102 := h102.mv hE rfl
   replace h109 := h109.mv hE rfl
   replace h112 := h112.mv hE rfl
   clear hE hr
   refine regO ?_
   refine oP T hS 2 ⟨[(1, Sl a2 s2 c2), (2, .f (.func 66) [] []), (8, Pt 9 0), (15, Sl a1 s1 c1), (16, I (lN s1)), (17, I x_103), (22, Sl a2 s2 c2), (23, I x_103)], [(9, (98, [I ((gi s1 x_103).Kind), I ((gi s1 x_103).Id), Sl a107 ((gi s1 x_103).Lits) c108, Sl a110 ((gi s1 x_103).Hints) c111]))]⟩ fun a hS => ?_
   obtain ⟨hq, hm⟩ := hm
   refine op1 (index (e := 98) (k := .i64) T hS kr kr kr kr h101 kr kr hq.1 hq.2 ?_)
   intro A113 a h114 hS
   refine op1 (loadA T hS kr kr kr h114 kr kr ?_)
   intro v115 a hv hS
   obtain ⟨a116, c117, a119, c120, hv, h118, h121⟩ := hv
   subst hv
   replace hm := hm (h118.sm kr)
   replace hm := hm (h121.sm kr)
   refine eM T hS ⟨[(1, Sl a2 s2 c2), (2, .f (.func 66) [] []), (8, Pt 9 0), (9, Pt 10 0), (15, Sl a1 s1 c1), (16, I (lN s1)), (17, I x_103)], [(9, (98, [I ((gi s1 x_103).Kind), I ((gi s1 x_103).Id), Sl a107 ((gi s1 x_103).Lits) c108, Sl a110 ((gi s1 x_103).Hints) c111])), (10, (98, [I ((gi s2 x_103).Kind), I ((gi s2 x_103).Id), Sl a116 ((gi s2 x_103).Lits) c117, Sl a119 ((gi s2 x_103).Hints) c120]))]⟩ fun ρ a w126 χ127 hS hE hr => ?_
   replace hO := hO.mv hE rfl rfl
   replace h101 := h101.mv hE rfl
   replace h102 := h102.mv hE rfl
   replace h109 := h109.mv hE rfl
   replace h112 := h112.mv hE rfl
   replace h118 := h118.mv hE rfl
   replace h121 := h121.mv hE rfl
   clear hE hr
   refine regO ?_
   refine oP T hS 3 ⟨[(1, Sl a2 s2 c2), (2, .f (.func 66) [] []), (15, Sl a1 s1 c1), (16, I (lN s1)), (17, I x_103), (26, .f (.func 66) [] []), (27, V (.agg #[.int .i64 ((gi s1 x_103).Kind), .int .i64 ((gi s1 x_103).Id), .slice a107 ((gi s1 x_103).Lits).length c108, .slice a110 ((gi s1 x_103).Hints).length c111])), (28, V (.agg #[.int .i64 ((gi s2 x_103).Kind), .int .i64 ((gi s2 x_103).Id), .slice a116 ((gi s2 x_103).Lits).length c117, .slice a119 ((gi s2 x_103).Hints).length c120]))], []⟩ fun a hS => ?_
   refine op1 (callC (fi := []) (cp := []) hS kr kr hb66 kr kr (fun _ _ => rfl) (k66 _ _ (gi s1 x_103) (gi s2 x_103) a107 c108 a110 c111 a116 c117 a119 c120 h109 h112 h118 h121) ?_)
   intro v122 a w123 χ124 hE hp hS
   replace hO := hO.mv hE rfl rfl
   replace h101 := h101.mv hE rfl
   replace h102 := h102.mv hE rfl
   replace h109 := h109.mv hE rfl
   replace h112 := h112.mv hE rfl
   replace h118 := h118.mv hE rfl
   replace h121 := h121.mv hE rfl
   obtain ⟨r125, hr⟩ : ∃ r, proof_Same_1 (gi s1 x_103) (gi s2 x_103) = r := ⟨_, rfl⟩
   replace hm := hm r125 hr
   rw [hr] at hp
   clear hr
   subst hp
   refine eP T hS ⟨[(1, Sl a2 s2 c2), (2, .f (.func 66) [] []), (15, Sl a1 s1 c1), (16, I (lN s1)), (17, I x_103), (30, B (!r125))], []⟩ fun a hS => ?_
   refine wcond hS (b := (!r125)) kr (fun hb => ?_) (fun hb => ?_)
   ·replace hm := hm.1 hb
    refine rP T hS ⟨[(6, B false)], []⟩ fun a hS => ?_
    refine wret ?_
    exact finR T hS hO (fun c h => f0of_zero kr h) (fun c h => f0of_else (l := []) h) (f1of []) rfl (r := [.bool false]) kr (fun χ' hM hC => ⟨false, hm, rfl⟩)
   replace hm := hm.2 hb
   refine wskip ?_
   refine region (eP T hS ⟨[(1, Sl a2 s2 c2), (2, .f (.func 66) [] []), (15, Sl a1 s1 c1), (16, I (lN s1)), (17, I (wR (x_103 + 1)))], []⟩ fun a hS => ?_)
   exact ⟨wR (x_103 + 1), ⟨ρ, _, hm.1, hS.sl _, hO, h101, h102⟩, hm.2⟩
  replace hm := hm.2 hb
  refine wexit (by rfl) ?_
  exact ⟨ρ, _, hm, hS.sl _, hO⟩
 rintro a w133 ⟨ρ, χ132, hm, hS, hO⟩
 unfold VC65_66_J1 at hm
 refine rP T hS ⟨[(6, B true)], []⟩ fun a hS => ?_
 refine wret ?_
 exact finR T hS hO (fun c h => f0of_zero kr h) (fun c h => f0of_else (l := []) h) (f1of []) rfl (r := [.bool true]) kr (fun χ' hM hC => ⟨true, hm, rfl⟩)
theorem C65_66 (k66 : S66) (v : ∀ (s1 : List Api_Step) (s2 : List Api_Step), VC65_66 s1 s2 (fun r => r = slices_EqualFunc_api_Step_api_Step_api_Step_api_Step_proof_Same_1 s1 s2)) : S65_66 := by
 intro w χ s1 s2 a1 c1 a2 c2   h1 h2 hA
 refine (W65_66 k66 w χ s1 s2 a1 c1 a2 c2   _ (v s1 s2) h1 h2 hA).mono ?_
 rintro _ _ _ _ ⟨r, rfl, h⟩
 exact h
theorem W42 (k65_66 : S65_66) (w0 : World) (χ0 : Nat → Nat) (a_ : List Api_Step) (b_ : List Api_Step) (a1 : Option Addr) (c1 : Nat) (a2 : Option Addr) (c2 : Nat) (Q : Bool → Prop) (hm : VC42 a_ b_ Q) (h1 : RS tApi_Step w0 χ0 a1 a_ c1) (h2 : RS tApi_Step w0 χ0 a2 b_ c2) :
  Ret Tryz.prog 42 #[.slice a1 a_.length c1, .slice a2 b_.length c2] xnone w0 χ0 (fun w χ' v => ∃ r, Q r ∧ v = .bool r) := by
 unfold VC42 at hm
 replace hm := hm (h1.sm kr)
 replace hm := hm (h2.sm kr)
 refine enter Tryz.func42 rfl (vals := [.slice a1 a_.length c1, .slice a2 b_.length c2]) kr ?_
 intro ρ a hS hO hM
 replace h1 := h1.m0 hM
 replace h2 := h2.m0 hM
 clear hM
 refine rP T hS ⟨[(0, Sl a1 a_ c1), (1, Sl a2 b_ c2)], []⟩ fun a hS => ?_
 refine regO ?_
 refine oP T hS 2 ⟨[(5, Sl a1 a_ c1), (6, Sl a2 b_ c2)], []⟩ fun a hS => ?_
 refine op1 (callR hS kr kr hb65 kr (k65_66 _ _ a_ b_ a1 c1 a2 c2 h1 h2 ⟨by decide, by decide⟩) ?_)
 intro v101 a w102 χ103 hE hp hS
 replace hO := hO.mv hE rfl rfl
 replace h1 := h1.mv hE rfl
 replace h2 := h2.mv hE rfl
 obtain ⟨r104, hr⟩ : ∃ r, slices_EqualFunc_api_Step_api_Step_api_Step_api_Step_proof_Same_1 a_ b_ = r := ⟨_, rfl⟩
 replace hm := hm r104 hr
 rw [hr] at hp
 clear hr
 subst hp
 refine eP T hS ⟨[(4, B r104)], []⟩ fun a hS => ?_
 refine wret ?_
 exact fin T hS hO (fun c => c) rfl (r := [.bool r104]) kr (fun χ' hM hC => ⟨r104, hm, rfl⟩)
theorem C42 (k65_66 : S65_66) (v : ∀ (a_ : List Api_Step) (b_ : List Api_Step), VC42 a_ b_ (fun r => r = proof_Same a_ b_)) : S42 := by
 intro w χ a_ b_ a1 c1 a2 c2   h1 h2
 refine (W42 k65_66 w χ a_ b_ a1 c1 a2 c2   _ (v a_ b_) h1 h2).mono ?_
 rintro _ _ _ _ ⟨r, rfl, h⟩
 exact h
theorem W30 (k54 : S54) (w0 : World) (χ0 : Nat → Nat) (a_ : List Api_Step) (b_ : List Api_Step) (a1 : Option Addr) (c1 : Nat) (a2 : Option Addr) (c2 : Nat) (Q : Bool → Prop) (hm : VC30 a_ b_ Q) (h1 : RS tApi_Step w0 χ0 a1 a_ c1) (h2 : RS tApi_Step w0 χ0 a2 b_ c2) :
  Ret Tryz.prog 30 #[.slice a1 a_.length c1, .slice a2 b_.length c2] xnone w0 χ0 (fun w χ' v => ∃ r, Q r ∧ v = .bool r) := by
 unfold VC30 at hm
 replace hm := hm (h1.sm kr)
 replace hm := hm (h2.sm kr)
 refine enter Tryz.func30 rfl (vals := [.slice a1 a_.length c1, .slice a2 b_.length c2]) kr ?_
 intro ρ a hS hO hM
 replace h1 := h1.m0 hM
 replace h2 := h2.m0 hM
 clear hM
 refine rP T hS ⟨[(0, Sl a1 a_ c1), (1, Sl a2 b_ c2)], []⟩ fun a hS => ?_
 refine wseq (rP T hS ⟨[(0, Sl a1 a_ c1), (1, Sl a2 b_ c2), (10, B ((lN a_) != (lN b_)))], []⟩ fun a hS => ?_)
 refine wcond hS (b := ((lN a_) != (lN b_))) kr (fun hb => ?_) (fun hb => ?_)
 ·replace hm := hm.1 hb
  refine rP T hS ⟨[(4, B false)], []⟩ fun a hS => ?_
  refine wret ?_
  exact fin T hS hO (fun c => c) rfl (r := [.bool false]) kr (fun χ' hM hC => ⟨false, hm, rfl⟩)
 replace hm := hm.2 hb
 refine wskip ?_
 refine wcut (fun a w => ∃ (ρ : Nat → Nat) (χ : Nat → Nat), VC30_J1 Q ∧ St Tryz.f30.ntmps ⟨[], []⟩ ρ a w χ ∧ Old w0 χ0 w χ) ?_ ?_
 ·refine rP T hS ⟨[(0, Sl a1 a_ c1), (1, Sl a2 b_ c2), (5, I 0)], []⟩ fun a hS => ?_
  refine wblock ?_
  obtain ⟨I1, μ1, hm0, hm⟩ := hm
  refine wloop (σ := Int) (fun s a w => ∃ (ρ : Nat → Nat) (χ : Nat → Nat), I1 s ∧ St Tryz.f30.ntmps ⟨[(0, Sl a1 a_ c1), (1, Sl a2 b_ c2), (5, I s)], []⟩ ρ a w χ ∧ Old w0 χ0 w χ ∧ RS tApi_Step w χ a1 a_ c1 ∧ RS tApi_Step w χ a2 b_ c2) (fun s => μ1 s) (0) ?_ ?_
  ·exact ⟨ρ, _, hm0, hS.sl _, hO, h1, h2⟩
  rintro i_103 a w644 ⟨ρ, χ643, hI, hS, hO, h101, h102⟩
  replace hm := hm i_103 hI
  clear hI hm0
  refine wseq (rP T hS ⟨[(0, Sl a1 a_ c1), (1, Sl a2 b_ c2), (5, I i_103), (14, B (decide (i_103 < (lN a_))))], []⟩ fun a hS => ?_)
  refine wcond hS (b := decide (i_103 < (lN a_))) kr (fun hb => ?_) (fun hb => ?_)
  ·replace hm := hm.1 hb
   refine wskip (wseq ?_)
   refine wblock ?_
   refine wcut (fun a w => ∃ (ρ : Nat → Nat) (χ : Nat → Nat) (x_106 : Bool), VC30_J2 Q I1 μ1 i_103 x_106 ∧ St Tryz.f30.ntmps ⟨[(0, Sl a1 a_ c1), (1, Sl a2 b_ c2), (5, I i_103), (68, B x_106)], []⟩ ρ a w χ ∧ Old w0 χ0 w χ ∧ RS tApi_Step w χ a1 a_ c1 ∧ RS tApi_Step w χ a2 b_ c2) ?_ ?_
   ·refine drawnX [] mixed hS ?_
    intro w107 χ108 hS hE hD hH
    replace hO := hO.mv hE rfl rfl
    replace h101 := h101.mv hE rfl
    replace h102 := h102.mv hE rfl
    refine take T [0, 1, 5, 6] [] [0, 1, 5, 17, 18, 22, 23] hS kr kr kr hH (listed' := #[true, true, false, false, false, true, true, false, false, false, false, false, false, false, false, false, false, false, false, false, false, false, false, false, false, false, false, false, false, false, false, false, false, false, false, false, false, false, false, false, false, false, false, false, false, false, false, false, false, false, false, false]) (fuel := 48) (sy' := ⟨[(0, Sl a1 a_ c1), (1, Sl a2 b_ c2), (5, I i_103), (17, Sl a1 a_ c1), (18, I i_103), (22, Sl a2 b_ c2), (23, I i_103)], []⟩) (by as_aux_lemma => kernel_rfl) (by rfl) ?_
    intro a hS
    obtain ⟨hq, hm⟩ := hm
    refine dindex (e := 98) (k := .i64) T 2 hS kr kr kr (by rfl) kr hH kr kr h101 kr kr hq.1 hq.2 ?_
    intro A109 a h110 hS
    have h110b := h110.here
    refine dfieldA (off := 0) (fsz := 1) (ft := 3) (TF := tI) (y := (gi a_ i_103).Kind) 3 T hS kr kr kr (by rfl) kr hH kr h110 kr kr kr (fun cs h => Api_Step_f0 h) ?_
    intro A111 a h112 hbl hS
    have h112b := h110b
    rw [← hbl] at h112b
    clear hbl
    refine dload1 T 4 hS kr kr kr (by rfl) kr hH kr h112 h112b rfl kr ?_
    intro v113 a hv hS
    cases hv
    obtain ⟨hq, hm⟩ := hm
    refine dindex (e := 98) (k := .i64) T 7 hS kr kr kr (by rfl) kr hH kr kr h102 kr kr hq.1 hq.2 ?_
    intro A114 a h115 hS
    have h115b := h115.here
    refine dfieldA (off := 0) (fsz := 1) (ft := 3) (TF := tI) (y := (gi b_ i_103).Kind) 8 T hS kr kr kr (by rfl) kr hH kr h115 kr kr kr (fun cs h => Api_Step_f0 h) ?_
    intro A116 a h117 hbl hS
    have h117b := h115b
    rw [← hbl] at h117b
    clear hbl
    refine dload1 T 9 hS kr kr kr (by rfl) kr hH kr h117 h117b rfl kr ?_
    intro v118 a hv hS
    cases hv
    refine take T [10, 11] [] [0, 1, 5, 28] hS kr kr kr hH (listed' := #[true, true, true, true, true, true, true, true, true, true, true, true, false, false, false, false, false, false, false, false, false, false, false, false, false, false, false, false, false, false, false, false, false, false, false, false, false, false, false, false, false, false, false, false, false, false, false, false, false, false, false, false]) (fuel := 40) (sy' := ⟨[(0, Sl a1 a_ c1), (1, Sl a2 b_ c2), (5, I i_103), (28, B (((gi a_ i_103).Kind) != ((gi b_ i_103).Kind)))], []⟩) (by as_aux_lemma => kernel_rfl) (by rfl) ?_
    intro a hS
    rcases Bool.eq_false_or_eq_true (((gi a_ i_103).Kind) != ((gi b_ i_103).Kind)) with hb | hb
    ·replace hS := hS.lit (t := 28) kr hb
     replace hm := hm.1 hb
     refine take T [12, 13, 17, 18, 14, 19, 15, 20, 16, 21, 22, 23, 24, 25, 26, 30, 31, 27, 32, 28, 33, 29, 34, 35, 36, 37, 38, 39, 40, 44, 45, 41, 46, 42, 47, 43, 48, 49, 50, 51] [] [0, 1, 5, 29, 30, 31, 32, 33, 34, 35, 36, 37, 38, 39, 42, 43, 44, 45, 46, 47, 48, 49, 50, 51, 52, 53, 56, 57, 58, 59, 60, 61, 62, 63, 64, 65, 66, 67, 68] hS kr kr kr hH (listed' := #[true, true, true, true, true, true, true, true, true, true, true, true, true, true, true, true, true, true, true, true, true, true, true, true, true, true, true, true, true, true, true, true, true, true, true, true, true, true, true, true, true, true, true, true, true, true, true, true, true, true, true, true]) (fuel := 0) (sy' := ⟨[(0, Sl a1 a_ c1), (1, Sl a2 b_ c2), (5, I i_103), (29, V undef), (30, V undef), (31, V undef), (32, V undef), (33, V undef), (34, V undef), (35, V undef), (36, V undef), (37, V undef), (38, V undef), (39, V undef), (42, V undef), (43, V undef), (44, V undef), (45, V undef), (46, V undef), (47, V undef), (48, V undef), (49, V undef), (50, V undef), (51, V undef), (52, V undef), (53, V undef), (56, V undef), (57, V undef), (58, V undef), (59, V undef), (60, V undef), (61, V undef), (62, V undef), (63, V undef), (64, V undef), (65, V undef), (66, V undef), (67, V undef), (68, B true)], []⟩) (by as_aux_lemma => kernel_rfl) (by rfl) ?_
     intro a hS
     refine drawnDone kr ?_
     clear hD hH
     replace hS := hS.sl ⟨[(0, Sl a1 a_ c1), (1, Sl a2 b_ c2), (5, I i_103), (68, B true)], []⟩
     exact ⟨ρ, _, true, hm, hS.sl _, hO, h101, h102⟩
    replace hS := hS.lit (t := 28) kr hb
    replace hm := hm.2 hb
    refine take T [12, 13, 17, 18] [] [0, 1, 5, 28, 29, 30, 34, 35] hS kr kr kr hH (listed' := #[true, true, true, true, true, true, true, true, true, true, true, true, true, true, false, false, false, true, true, false, false, false, false, false, false, false, false, false, false, false, false, false, false, false, false, false, false, false, false, false, false, false, false, false, false, false, false, false, false, false, false, false]) (fuel := 36) (sy' := ⟨[(0, Sl a1 a_ c1), (1, Sl a2 b_ c2), (5, I i_103), (28, B false), (29, Sl a1 a_ c1), (30, I i_103), (34, Sl a2 b_ c2), (35, I i_103)], []⟩) (by as_aux_lemma => kernel_rfl) (by rfl) ?_
    intro a hS
    obtain ⟨hq, hm⟩ := hm
    refine dindex (e := 98) (k := .i64) T 14 hS kr kr kr (by rfl) kr hH kr kr h101 kr kr hq.1 hq.2 ?_
    intro A119 a h120 hS
    have h120b := h120.here
    refine dfieldA (off := 1) (fsz := 1) (ft := 3) (TF := tI) (y := (gi a_ i_103).Id) 15 T hS kr kr kr (by rfl) kr hH kr h120 kr kr kr (fun cs h => Api_Step_f1 h) ?_
    intro A121 a h122 hbl hS
    have h122b := h120b
    rw [← hbl] at h122b
    clear hbl
    refine dload1 T 16 hS kr kr kr (by rfl) kr hH kr h122 h122b rfl kr ?_
    intro v123 a hv hS
    cases hv
    obtain ⟨hq, hm⟩ := hm
    refine dindex (e := 98) (k := .i64) T 19 hS kr kr kr (by rfl) kr hH kr kr h102 kr kr hq.1 hq.2 ?_
    intro A124 a h125 hS
    have h125b := h125.here
    refine dfieldA (off := 1) (fsz := 1) (ft := 3) (TF := tI) (y := (gi b_ i_103).Id) 20 T hS kr kr kr (by rfl) kr hH kr h125 kr kr kr (fun cs h => Api_Step_f1 h) ?_
    intro A126 a h127 hbl hS
    have h127b := h125b
    rw [← hbl] at h127b
    clear hbl
    refine dload1 T 21 hS kr kr kr (by rfl) kr hH kr h127 h127b rfl kr ?_
    intro v128 a hv hS
    cases hv
    refine take T [22, 23, 24] [] [0, 1, 5, 29, 30, 31, 32, 33, 34, 35, 36, 37, 38, 39, 41] hS kr kr kr hH (listed' := #[true, true, true, true, true, true, true, true, true, true, true, true, true, true, true, true, true, true, true, true, true, true, true, true, true, false, false, false, false, false, false, false, false, false, false, false, false, false, false, false, false, false, false, false, false, false, false, false, false, false, false, false]) (fuel := 27) (sy' := ⟨[(0, Sl a1 a_ c1), (1, Sl a2 b_ c2), (5, I i_103), (29, Sl a1 a_ c1), (30, I i_103), (31, V (.pointer (some A119))), (32, V (.pointer (some A121))), (33, I ((gi a_ i_103).Id)), (34, Sl a2 b_ c2), (35, I i_103), (36, V (.pointer (some A124))), (37, V (.pointer (some A126))), (38, I ((gi b_ i_103).Id)), (39, B (((gi a_ i_103).Id) != ((gi b_ i_103).Id))), (41, B (((gi a_ i_103).Id) != ((gi b_ i_103).Id)))], []⟩) (by as_aux_lemma => kernel_rfl) (by rfl) ?_
    intro a hS
    rcases Bool.eq_false_or_eq_true (((gi a_ i_103).Id) != ((gi b_ i_103).Id)) with hb | hb
    ·replace hS := hS.lit (t := 41) kr hb
     replace hm := hm.1 hb
     refine take T [25, 26, 30, 31, 27, 32, 28, 33, 29, 34, 35, 36, 37, 38, 39, 40, 44, 45, 41, 46, 42, 47, 43, 48, 49, 50, 51] [] [0, 1, 5, 29, 30, 31, 32, 33, 34, 35, 36, 37, 38, 39, 42, 43, 44, 45, 46, 47, 48, 49, 50, 51, 52, 53, 56, 57, 58, 59, 60, 61, 62, 63, 64, 65, 66, 67, 68] hS kr kr kr hH (listed' := #[true, true, true, true, true, true, true, true, true, true, true, true, true, true, true, true, true, true, true, true, true, true, true, true, true, true, true, true, true, true, true, true, true, true, true, true, true, true, true, true, true, true, true, true, true, true, true, true, true, true, true, true]) (fuel := 0) (sy' := ⟨[(0, Sl a1 a_ c1), (1, Sl a2 b_ c2), (5, I i_103), (29, Sl a1 a_ c1), (30, I i_103), (31, V (.pointer (some A119))), (32, V (.pointer (some A121))), (33, I ((gi a_ i_103).Id)), (34, Sl a2 b_ c2), (35, I i_103), (36, V (.pointer (some A124))), (37, V (.pointer (some A126))), (38, I ((gi b_ i_103).Id)), (39, B (((gi a_ i_103).Id) != ((gi b_ i_103).Id))), (42, V undef), (43, V undef), (44, V undef), (45, V undef), (46, V undef), (47, V undef), (48, V undef), (49, V undef), (50, V undef), (51, V undef), (52, V undef), (53, V undef), (56, V undef), (57, V undef), (58, V undef), (59, V undef), (60, V undef), (61, V undef), (62, V undef), (63, V undef), (64, V undef), (65, V undef), (66, V undef), (67, V undef), (68, B true)], []⟩) (by as_aux_lemma => kernel_rfl) (by rfl) ?_
     intro a hS
     refine drawnDone kr ?_
     clear hD hH
     replace hS := hS.sl ⟨[(0, Sl a1 a_ c1), (1, Sl a2 b_ c2), (5, I i_103), (29, Sl a1 a_ c1), (30, I i_103), (31, V (.pointer (some A119))), (32, V (.pointer (some A121))), (33, I ((gi a_ i_103).Id)), (34, Sl a2 b_ c2), (35, I i_103), (36, V (.pointer (some A124))), (37, V (.pointer (some A126))), (38, I ((gi b_ i_103).Id)), (39, B (((gi a_ i_103).Id) != ((gi b_ i_103).Id))), (68, B true)], []⟩
     exact ⟨ρ, _, true, hm, hS.sl _, hO, h101, h102⟩
    replace hS := hS.lit (t := 41) kr hb
    replace hm := hm.2 hb
    refine take T [25, 26, 30, 31] [] [0, 1, 5, 29, 30, 31, 32, 33, 34, 35, 36, 37, 38, 39, 41, 42, 43, 47, 48] hS kr kr kr hH (listed' := #[true, true, true, true, true, true, true, true, true, true, true, true, true, true, true, true, true, true, true, true, true, true, true, true, true, true, true, false, false, false, true, true, false, false, false, false, false, false, false, false, false, false, false, false, false, false, false, false, false, false, false, false]) (fuel := 23) (sy' := ⟨[(0, Sl a1 a_ c1), (1, Sl a2 b_ c2), (5, I i_103), (29, Sl a1 a_ c1), (30, I i_103), (31, V (.pointer (some A119))), (32, V (.pointer (some A121))), (33, I ((gi a_ i_103).Id)), (34, Sl a2 b_ c2), (35, I i_103), (36, V (.pointer (some A124))), (37, V (.pointer (some A126))), (38, I ((gi b_ i_103).Id)), (39, B (((gi a_ i_103).Id) != ((gi b_ i_103).Id))), (41, B false), (42, Sl a1 a_ c1), (43, I i_103), (47, Sl a2 b_ c2), (48, I i_103)], []⟩) (by as_aux_lemma => kernel_rfl) (by rfl) ?_
    intro a hS
    obtain ⟨hq, hm⟩ := hm
    refine dindex (e := 98) (k := .i64) T 27 hS kr kr kr (by rfl) kr hH kr kr h101 kr kr hq.1 hq.2 ?_
    intro A129 a h130 hS
    have h130b := h130.here
    refine dfieldA (off := 2) (fsz := 1) (ft := 50) (TF := (tSlice tI)) (y := (gi a_ i_103).Lits) 28 T hS kr kr kr (by rfl) kr hH kr h130 kr kr kr (fun cs h => Api_Step_f2 h) ?_
    intro A131 a h132 hbl hS
    have h132b := h130b
    rw [← hbl] at h132b
    clear hbl
    refine dload1 T 29 hS kr kr kr (by rfl) kr hH kr h132 h132b rfl kr ?_
    intro v133 a hv hS
    obtain ⟨a134, c135, hv, h136⟩ := hv
    cases hv
    replace hm := hm (h136.sm kr)
    obtain ⟨hq, hm⟩ := hm
    refine dindex (e := 98) (k := .i64) T 32 hS kr kr kr (by rfl) kr hH kr kr h102 kr kr hq.1 hq.2 ?_
    intro A137 a h138 hS
    have h138b := h138.here
    refine dfieldA (off := 2) (fsz := 1) (ft := 50) (TF := (tSlice tI)) (y := (gi b_ i_103).Lits) 33 T hS kr kr kr (by rfl) kr hH kr h138 kr kr kr (fun cs h => Api_Step_f2 h) ?_
    intro A139 a h140 hbl hS
    have h140b := h138b
    rw [← hbl] at h140b
    clear hbl
    refine dload1 T 34 hS kr kr kr (by rfl) kr hH kr h140 h140b rfl kr ?_
    intro v141 a hv hS
    obtain ⟨a142, c143, hv, h144⟩ := hv
    cases hv
    replace hm := hm (h144.sm kr)
    refine only 35 kr (by rfl) (call hS kr kr hb54 kr (fun _ _ => rfl) (k54 _ _ ((gi a_ i_103).Lits) ((gi b_ i_103).Lits) a134 c135 a142 c143 h136 h144) ?_)
    intro v145 a w146 χ147 hE hp hS
    replace hO := hO.mv hE rfl rfl
    replace hD := hD.ev hE rfl
    replace h101 := h101.mv hE rfl
    replace h102 := h102.mv hE rfl
    replace h110 := h110.mv hE rfl
    replace h112 := h112.mv hE rfl
    replace h115 := h115.mv hE rfl
    replace h117 := h117.mv hE rfl
    replace h120 := h120.mv hE rfl
    replace h122 := h122.mv hE rfl
    replace h125 := h125.mv hE rfl
    replace h127 := h127.mv hE rfl
    replace h130 := h130.mv hE rfl
    replace h132 := h132.mv hE rfl
    replace h136 := h136.mv hE rfl
    replace h138 := h138.mv hE rfl
    replace h140 := h140.mv hE rfl
    replace h144 := h144.mv hE rfl
    obtain ⟨r148, hr⟩ : ∃ r, ref01_SameInts ((gi a_ i_103).Lits) ((gi b_ i_103).Lits) = r := ⟨_, rfl⟩
    replace hm := hm r148 hr
    rw [hr] at hp
    clear hr
    subst hp
    refine andH (Hold.of hS (bks := []) kr hD) ?_
    intro hH
    refine take T [36, 37, 38] [] [0, 1, 5, 29, 30, 31, 32, 33, 34, 35, 36, 37, 38, 39, 42, 43, 44, 45, 46, 47, 48, 49, 50, 51, 52, 53, 55] hS kr kr kr hH (listed' := #[true, true, true, true, true, true, true, true, true, true, true, true, true, true, true, true, true, true, true, true, true, true, true, true, true, true, true, true, true, true, true, true, true, true, true, true, true, true, true, false, false, false, false, false, false, false, false, false, false, false, false, false]) (fuel := 13) (sy' := ⟨[(0, Sl a1 a_ c1), (1, Sl a2 b_ c2), (5, I i_103), (29, Sl a1 a_ c1), (30, I i_103), (31, V (.pointer (some A119))), (32, V (.pointer (some A121))), (33, I ((gi a_ i_103).Id)), (34, Sl a2 b_ c2), (35, I i_103), (36, V (.pointer (some A124))), (37, V (.pointer (some A126))), (38, I ((gi b_ i_103).Id)), (39, B (((gi a_ i_103).Id) != ((gi b_ i_103).Id))), (42, Sl a1 a_ c1), (43, I i_103), (44, V (.pointer (some A129))), (45, V (.pointer (some A131))), (46, Sl a134 ((gi a_ i_103).Lits) c135), (47, Sl a2 b_ c2), (48, I i_103), (49, V (.pointer (some A137))), (50, V (.pointer (some A139))), (51, Sl a142 ((gi b_ i_103).Lits) c143), (52, B r148), (53, B (!r148)), (55, B (!r148))], []⟩) (by as_aux_lemma => kernel_rfl) (by rfl) ?_
    intro a hS
    rcases Bool.eq_false_or_eq_true (!r148) with hb | hb
    ·replace hS := hS.lit (t := 55) kr hb
     replace hm := hm.1 hb
     refine take T [39, 40, 44, 45, 41, 46, 42, 47, 43, 48, 49, 50, 51] [] [0, 1, 5, 29, 30, 31, 32, 33, 34, 35, 36, 37, 38, 39, 42, 43, 44, 45, 46, 47, 48, 49, 50, 51, 52, 53, 56, 57, 58, 59, 60, 61, 62, 63, 64, 65, 66, 67, 68] hS kr kr kr hH (listed' := #[true, true, true, true, true, true, true, true, true, true, true, true, true, true, true, true, true, true, true, true, true, true, true, true, true, true, true, true, true, true, true, true, true, true, true, true, true, true, true, true, true, true, true, true, true, true, true, true, true, true, true, true]) (fuel := 0) (sy' := ⟨[(0, Sl a1 a_ c1), (1, Sl a2 b_ c2), (5, I i_103), (29, Sl a1 a_ c1), (30, I i_103), (31, V (.pointer (some A119))), (32, V (.pointer (some A121))), (33, I ((gi a_ i_103).Id)), (34, Sl a2 b_ c2), (35, I i_103), (36, V (.pointer (some A124))), (37, V (.pointer (some A126))), (38, I ((gi b_ i_103).Id)), (39, B (((gi a_ i_103).Id) != ((gi b_ i_103).Id))), (42, Sl a1 a_ c1), (43, I i_103), (44, V (.pointer (some A129))), (45, V (.pointer (some A131))), (46, Sl a134 ((gi a_ i_103).Lits) c135), (47, Sl a2 b_ c2), (48, I i_103), (49, V (.pointer (some A137))), (50, V (.pointer (some A139))), (51, Sl a142 ((gi b_ i_103).Lits) c143), (52, B r148), (53, B (!r148)), (56, V undef), (57, V undef), (58, V undef), (59, V undef), (60, V undef), (61, V undef), (62, V undef), (63, V undef), (64, V undef), (65, V undef), (66, V undef), (67, V undef), (68, B true)], []⟩) (by as_aux_lemma => kernel_rfl) (by rfl) ?_
     intro a hS
     refine drawnDone kr ?_
     clear hD hH
     replace hS := hS.sl ⟨[(0, Sl a1 a_ c1), (1, Sl a2 b_ c2), (5, I i_103), (29, Sl a1 a_ c1), (30, I i_103), (31, V (.pointer (some A119))), (32, V (.pointer (some A121))), (33, I ((gi a_ i_103).Id)), (34, Sl a2 b_ c2), (35, I i_103), (36, V (.pointer (some A124))), (37, V (.pointer (some A126))), (38, I ((gi b_ i_103).Id)), (39, B (((gi a_ i_103).Id) != ((gi b_ i_103).Id))), (42, Sl a1 a_ c1), (43, I i_103), (44, V (.pointer (some A129))), (45, V (.pointer (some A131))), (46, Sl a134 ((gi a_ i_103).Lits) c135), (47, Sl a2 b_ c2), (48, I i_103), (49, V (.pointer (some A137))), (50, V (.pointer (some A139))), (51, Sl a142 ((gi b_ i_103).Lits) c143), (52, B r148), (53, B (!r148)), (68, B true)], []⟩
     exact ⟨ρ, _, true, hm, hS.sl _, hO, h101, h102⟩
    replace hS := hS.lit (t := 55) kr hb
    replace hm := hm.2 hb
    refine take T [39, 40, 44, 45] [] [0, 1, 5, 29, 30, 31, 32, 33, 34, 35, 36, 37, 38, 39, 42, 43, 44, 45, 46, 47, 48, 49, 50, 51, 52, 53, 55, 56, 57, 61, 62] hS kr kr kr hH (listed' := #[true, true, true, true, true, true, true, true, true, true, true, true, true, true, true, true, true, true, true, true, true, true, true, true, true, true, true, true, true, true, true, true, true, true, true, true, true, true, true, true, true, false, false, false, true, true, false, false, false, false, false, false]) (fuel := 9) (sy' := ⟨[(0, Sl a1 a_ c1), (1, Sl a2 b_ c2), (5, I i_103), (29, Sl a1 a_ c1), (30, I i_103), (31, V (.pointer (some A119))), (32, V (.pointer (some A121))), (33, I ((gi a_ i_103).Id)), (34, Sl a2 b_ c2), (35, I i_103), (36, V (.pointer (some A124))), (37, V (.pointer (some A126))), (38, I ((gi b_ i_103).Id)), (39, B (((gi a_ i_103).Id) != ((gi b_ i_103).Id))), (42, Sl a1 a_ c1), (43, I i_103), (44, V (.pointer (some A129))), (45, V (.pointer (some A131))), (46, Sl a134 ((gi a_ i_103).Lits) c135), (47, Sl a2 b_ c2), (48, I i_103), (49, V (.pointer (some A137))), (50, V (.pointer (some A139))), (51, Sl a142 ((gi b_ i_103).Lits) c143), (52, B r148), (53, B (!r148)), (55, B false), (56, Sl a1 a_ c1), (57, I i_103), (61, Sl a2 b_ c2), (62, I i_103)], []⟩) (by as_aux_lemma => kernel_rfl) (by rfl) ?_
    intro a hS
    obtain ⟨hgq41, hm⟩ := hm
    obtain ⟨hgq46, hm⟩ := hm
    refine drcut (fun a w => ∃ (χ : Nat → Nat) (A406 : Addr) (A408 : Addr) (a410 : Option Addr) (c411 : Nat) (A413 : Addr) (A415 : Addr) (a417 : Option Addr) (c418 : Nat), St Tryz.f30.ntmps ⟨[(0, Sl a1 a_ c1), (1, Sl a2 b_ c2), (5, I i_103), (29, Sl a1 a_ c1), (30, I i_103), (31, V (.pointer (some A119))), (32, V (.pointer (some A121))), (33, I ((gi a_ i_103).Id)), (34, Sl a2 b_ c2), (35, I i_103), (36, V (.pointer (some A124))), (37, V (.pointer (some A126))), (38, I ((gi b_ i_103).Id)), (39, B (((gi a_ i_103).Id) != ((gi b_ i_103).Id))), (42, Sl a1 a_ c1), (43, I i_103), (44, V (.pointer (some A129))), (45, V (.pointer (some A131))), (46, Sl a134 ((gi a_ i_103).Lits) c135), (47, Sl a2 b_ c2), (48, I i_103), (49, V (.pointer (some A137))), (50, V (.pointer (some A139))), (51, Sl a142 ((gi b_ i_103).Lits) c143), (52, B r148), (53, B (!r148)), (55, B false), (56, Sl a1 a_ c1), (57, I i_103), (58, V (.pointer (some A406))), (59, V (.pointer (some A408))), (60, Sl a410 ((gi a_ i_103).Hints) c411), (61, Sl a2 b_ c2), (62, I i_103), (63, V (.pointer (some A413))), (64, V (.pointer (some A415))), (65, Sl a417 ((gi b_ i_103).Hints) c418)], []⟩ ρ a w χ ∧ Old w0 χ0 w χ ∧ M0 w107 χ108 w χ ∧ Hold w107 χ108 (filt [] ⟨[(0, Sl a1 a_ c1), (1, Sl a2 b_ c2), (5, I i_103)], []⟩) ρ w ∧ RS tApi_Step w χ a1 a_ c1 ∧ RS tApi_Step w χ a2 b_ c2 ∧ At tApi_Step w χ A119 (gi a_ i_103) ∧ At tI w χ A121 ((gi a_ i_103).Id) ∧ At tApi_Step w χ A124 (gi b_ i_103) ∧ At tI w χ A126 ((gi b_ i_103).Id) ∧ At tApi_Step w χ A129 (gi a_ i_103) ∧ At (tSlice tI) w χ A131 ((gi a_ i_103).Lits) ∧ RS tI w χ a134 ((gi a_ i_103).Lits) c135 ∧ At tApi_Step w χ A137 (gi b_ i_103) ∧ At (tSlice tI) w χ A139 ((gi b_ i_103).Lits) ∧ RS tI w χ a142 ((gi b_ i_103).Lits) c143 ∧ At tApi_Step w χ A406 (gi a_ i_103) ∧ At (tSlice tI) w χ A408 ((gi a_ i_103).Hints) ∧ RS tI w χ a410 ((gi a_ i_103).Hints) c411 ∧ At tApi_Step w χ A413 (gi b_ i_103) ∧ At (tSlice tI) w χ A415 ((gi b_ i_103).Hints) ∧ RS tI w χ a417 ((gi b_ i_103).Hints) c418) #[true, true, true, true, true, true, true, true, true, true, true, true, true, true, true, true, true, true, true, true, true, true, true, true, true, true, true, true, true, true, true, true, true, true, true, true, true, true, true, true, true, true, true, true, true, true, true, true, true, false, false, false] 3 ?_ (fun H => ?_)
    ·rintro a w636 ⟨χ635, A406, A408, a410, c411, A413, A415, a417, c418, hS, hO, hD, hH, h393, h394, h395, h396, h397, h398, h399, h400, h401, h402, h403, h404, h405, h407, h409, h412, h414, h416⟩
     have h395b := h395.here
     have h396b := h396.here
     have h397b := h397.here
     have h398b := h398.here
     have h399b := h399.here
     have h400b := h400.here
     have h402b := h402.here
     have h403b := h403.here
     have h405b := h405.here
     have h407b := h407.here
     have h412b := h412.here
     have h414b := h414.here
     replace hm := hm (h409.sm kr)
     replace hm := hm (h416.sm kr)
     clear hgq41 hgq46
     refine only 49 kr (by rfl) (call hS kr kr hb54 kr (fun _ _ => rfl) (k54 _ _ ((gi a_ i_103).Hints) ((gi b_ i_103).Hints) a410 c411 a417 c418 h409 h416) ?_)
     intro v637 a w638 χ639 hE hp hS
     replace hO := hO.mv hE rfl rfl
     replace hD := hD.ev hE rfl
     replace h393 := h393.mv hE rfl
     replace h394 := h394.mv hE rfl
     replace h395 := h395.mv hE rfl
     replace h396 := h396.mv hE rfl
     replace h397 := h397.mv hE rfl
     replace h398 := h398.mv hE rfl
     replace h399 := h399.mv hE rfl
     replace h400 := h400.mv hE rfl
     replace h401 := h401.mv hE rfl
     replace h402 := h402.mv hE rfl
     replace h403 := h403.mv hE rfl
     replace h404 := h404.mv hE rfl
     replace h405 := h405.mv hE rfl
     replace h407 := h407.mv hE rfl
     replace h409 := h409.mv hE rfl
     replace h412 := h412.mv hE rfl
     replace h414 := h414.mv hE rfl
     replace h416 := h416.mv hE rfl
     obtain ⟨r640, hr⟩ : ∃ r, ref01_SameInts ((gi a_ i_103).Hints) ((gi b_ i_103).Hints) = r := ⟨_, rfl⟩
     replace hm := hm r640 hr
     rw [hr] at hp
     clear hr
     subst hp
     refine andH (Hold.of hS (bks := []) kr hD) ?_
     intro hH
     refine take T [50, 51] [] [0, 1, 5, 29, 30, 31, 32, 33, 34, 35, 36, 37, 38, 39, 42, 43, 44, 45, 46, 47, 48, 49, 50, 51, 52, 53, 56, 57, 58, 59, 60, 61, 62, 63, 64, 65, 66, 67, 68] hS kr kr kr hH (listed' := #[true, true, true, true, true, true, true, true, true, true, true, true, true, true, true, true, true, true, true, true, true, true, true, true, true, true, true, true, true, true, true, true, true, true, true, true, true, true, true, true, true, true, true, true, true, true, true, true, true, true, true, true]) (fuel := 0) (sy' := ⟨[(0, Sl a1 a_ c1), (1, Sl a2 b_ c2), (5, I i_103), (29, Sl a1 a_ c1), (30, I i_103), (31, V (.pointer (some A119))), (32, V (.pointer (some A121))), (33, I ((gi a_ i_103).Id)), (34, Sl a2 b_ c2), (35, I i_103), (36, V (.pointer (some A124))), (37, V (.pointer (some A126))), (38, I ((gi b_ i_103).Id)), (39, B (((gi a_ i_103).Id) != ((gi b_ i_103).Id))), (42, Sl a1 a_ c1), (43, I i_103), (44, V (.pointer (some A129))), (45, V (.pointer (some A131))), (46, Sl a134 ((gi a_ i_103).Lits) c135), (47, Sl a2 b_ c2), (48, I i_103), (49, V (.pointer (some A137))), (50, V (.pointer (some A139))), (51, Sl a142 ((gi b_ i_103).Lits) c143), (52, B r148), (53, B (!r148)), (56, Sl a1 a_ c1), (57, I i_103), (58, V (.pointer (some A406))), (59, V (.pointer (some A408))), (60, Sl a410 ((gi a_ i_103).Hints) c411), (61, Sl a2 b_ c2), (62, I i_103), (63, V (.pointer (some A413))), (64, V (.pointer (some A415))), (65, Sl a417 ((gi b_ i_103).Hints) c418), (66, B r640), (67, B (!r640)), (68, B (!r640))], []⟩) (by as_aux_lemma => kernel_rfl) (by rfl) ?_
     intro a hS
     refine drawnDone kr ?_
     clear hD hH
     replace hS := hS.sl ⟨[(0, Sl a1 a_ c1), (1, Sl a2 b_ c2), (5, I i_103), (29, Sl a1 a_ c1), (30, I i_103), (31, V (.pointer (some A119))), (32, V (.pointer (some A121))), (33, I ((gi a_ i_103).Id)), (34, Sl a2 b_ c2), (35, I i_103), (36, V (.pointer (some A124))), (37, V (.pointer (some A126))), (38, I ((gi b_ i_103).Id)), (39, B (((gi a_ i_103).Id) != ((gi b_ i_103).Id))), (42, Sl a1 a_ c1), (43, I i_103), (44, V (.pointer (some A129))), (45, V (.pointer (some A131))), (46, Sl a134 ((gi a_ i_103).Lits) c135), (47, Sl a2 b_ c2), (48, I i_103), (49, V (.pointer (some A137))), (50, V (.pointer (some A139))), (51, Sl a142 ((gi b_ i_103).Lits) c143), (52, B r148), (53, B (!r148)), (56, Sl a1 a_ c1), (57, I i_103), (58, V (.pointer (some A406))), (59, V (.pointer (some A408))), (60, Sl a410 ((gi a_ i_103).Hints) c411), (61, Sl a2 b_ c2), (62, I i_103), (63, V (.pointer (some A413))), (64, V (.pointer (some A415))), (65, Sl a417 ((gi b_ i_103).Hints) c418), (66, B r640), (67, B (!r640)), (68, B (!r640))], []⟩
     exact ⟨ρ, _, (!r640), hm, hS.sl _, hO, h393, h394⟩
    clear hm
    refine anyOf (is := [41, 46]) kr (by decide) ?_
    intro i hi
    rcases mem2 hi with rfl | rfl
    ·have hq := hgq41
     refine oneOp (by rfl) (index (e := 98) (k := .i64) T hS kr kr kr kr h101 kr kr hq.1 hq.2 ?_)
     intro A419 a h420 hS
     refine andH (Hold.of hS (bks := []) kr hD) ?_
     intro hH
     refine anyOf (is := [42, 46]) kr (by decide) ?_
     intro i hi
     rcases mem2 hi with rfl | rfl
     ·refine oneOp (by rfl) (fieldA (off := 3) (fsz := 1) (ft := 50) (TF := (tSlice tI)) (y := (gi a_ i_103).Hints) T hS kr kr kr h420 kr kr kr (fun cs h => Api_Step_f3 h) ?_)
      intro A421 a h422 hS
      refine andH (Hold.of hS (bks := []) kr hD) ?_
      intro hH
      refine anyOf (is := [43, 46]) kr (by decide) ?_
      intro i hi
      rcases mem2 hi with rfl | rfl
      ·refine oneOp (by rfl) (load1 T hS kr kr kr h422 rfl kr ?_)
       intro v423 a hv hS
       obtain ⟨a424, c425, hv, h426⟩ := hv
       cases hv
       refine andH (Hold.of hS (bks := []) kr hD) ?_
       intro hH
       have hq := hgq46
       refine only 46 kr (by rfl) (index (e := 98) (k := .i64) T hS kr kr kr kr h102 kr kr hq.1 hq.2 ?_)
       intro A427 a h428 hS
       refine andH (Hold.of hS (bks := []) kr hD) ?_
       intro hH
       refine only 47 kr (by rfl) (fieldA (off := 3) (fsz := 1) (ft := 50) (TF := (tSlice tI)) (y := (gi b_ i_103).Hints) T hS kr kr kr h428 kr kr kr (fun cs h => Api_Step_f3 h) ?_)
       intro A429 a h430 hS
       refine andH (Hold.of hS (bks := []) kr hD) ?_
       intro hH
       refine only 48 kr (by rfl) (load1 T hS kr kr kr h430 rfl kr ?_)
       intro v431 a hv hS
       obtain ⟨a432, c433, hv, h434⟩ := hv
       cases hv
       refine andH (Hold.of hS (bks := []) kr hD) ?_
       intro hH
       exact H _ _ ⟨_, A419, A421, a424, c425, A427, A429, a432, c433, hS.sl _, hO, hD, hH, h101, h102, h120, h122, h125, h127, h130, h132, h136, h138, h140, h144, h420, h422, h426, h428, h430, h434⟩
      have hq := hgq46
      refine oneOp (by rfl) (index (e := 98) (k := .i64) T hS kr kr kr kr h102 kr kr hq.1 hq.2 ?_)
      intro A435 a h436 hS
      refine andH (Hold.of hS (bks := []) kr hD) ?_
      intro hH
      refine anyOf (is := [43, 47]) kr (by decide) ?_
      intro i hi
      rcases mem2 hi with rfl | rfl
      ·refine oneOp (by rfl) (load1 T hS kr kr kr h422 rfl kr ?_)
       intro v437 a hv hS
       obtain ⟨a438, c439, hv, h440⟩ := hv
       cases hv
       refine andH (Hold.of hS (bks := []) kr hD) ?_
       intro hH
       refine only 47 kr (by rfl) (fieldA (off := 3) (fsz := 1) (ft := 50) (TF := (tSlice tI)) (y := (gi b_ i_103).Hints) T hS kr kr kr h436 kr kr kr (fun cs h => Api_Step_f3 h) ?_)
       intro A441 a h442 hS
       refine andH (Hold.of hS (bks := []) kr hD) ?_
       intro hH
       refine only 48 kr (by rfl) (load1 T hS kr kr kr h442 rfl kr ?_)
       intro v443 a hv hS
       obtain ⟨a444, c445, hv, h446⟩ := hv
       cases hv
       refine andH (Hold.of hS (bks := []) kr hD) ?_
       intro hH
       exact H _ _ ⟨_, A419, A421, a438, c439, A435, A441, a444, c445, hS.sl _, hO, hD, hH, h101, h102, h120, h122, h125, h127, h130, h132, h136, h138, h140, h144, h420, h422, h440, h436, h442, h446⟩
      refine oneOp (by rfl) (fieldA (off := 3) (fsz := 1) (ft := 50) (TF := (tSlice tI)) (y := (gi b_ i_103).Hints) T hS kr kr kr h436 kr kr kr (fun cs h => Api_Step_f3 h) ?_)
      intro A447 a h448 hS
      refine andH (Hold.of hS (bks := []) kr hD) ?_
      intro hH
      refine anyOf (is := [43, 48]) kr (by decide) ?_
      intro i hi
      rcases mem2 hi with rfl | rfl
      ·refine oneOp (by rfl) (load1 T hS kr kr kr h422 rfl kr ?_)
       intro v449 a hv hS
       obtain ⟨a450, c451, hv, h452⟩ := hv
       cases hv
       refine andH (Hold.of hS (bks := []) kr hD) ?_
       intro hH
       refine only 48 kr (by rfl) (load1 T hS kr kr kr h448 rfl kr ?_)
       intro v453 a hv hS
       obtain ⟨a454, c455, hv, h456⟩ := hv
       cases hv
       refine andH (Hold.of hS (bks := []) kr hD) ?_
       intro hH
       exact H _ _ ⟨_, A419, A421, a450, c451, A435, A447, a454, c455, hS.sl _, hO, hD, hH, h101, h102, h120, h122, h125, h127, h130, h132, h136, h138, h140, h144, h420, h422, h452, h436, h448, h456⟩
      refine oneOp (by rfl) (load1 T hS kr kr kr h448 rfl kr ?_)
      intro v457 a hv hS
      obtain ⟨a458, c459, hv, h460⟩ := hv
      cases hv
      refine andH (Hold.of hS (bks := []) kr hD) ?_
      intro hH
      refine only 43 kr (by rfl) (load1 T hS kr kr kr h422 rfl kr ?_)
      intro v461 a hv hS
      obtain ⟨a462, c463, hv, h464⟩ := hv
      cases hv
      refine andH (Hold.of hS (bks := []) kr hD) ?_
      intro hH
      exact H _ _ ⟨_, A419, A421, a462, c463, A435, A447, a458, c459, hS.sl _, hO, hD, hH, h101, h102, h120, h122, h125, h127, h130, h132, h136, h138, h140, h144, h420, h422, h464, h436, h448, h460⟩
     have hq := hgq46
     refine oneOp (by rfl) (index (e := 98) (k := .i64) T hS kr kr kr kr h102 kr kr hq.1 hq.2 ?_)
     intro A465 a h466 hS
     refine andH (Hold.of hS (bks := []) kr hD) ?_
     intro hH
     refine anyOf (is := [42, 47]) kr (by decide) ?_
     intro i hi
     rcases mem2 hi with rfl | rfl
     ·refine oneOp (by rfl) (fieldA (off := 3) (fsz := 1) (ft := 50) (TF := (tSlice tI)) (y := (gi a_ i_103).Hints) T hS kr kr kr h420 kr kr kr (fun cs h => Api_Step_f3 h) ?_)
      intro A467 a h468 hS
      refine andH (Hold.of hS (bks := []) kr hD) ?_
      intro hH
      refine anyOf (is := [43, 47]) kr (by decide) ?_
      intro i hi
      rcases mem2 hi with rfl | rfl
      ·refine oneOp (by rfl) (load1 T hS kr kr kr h468 rfl kr ?_)
       intro v469 a hv hS
       obtain ⟨a470, c471, hv, h472⟩ := hv
       cases hv
       refine andH (Hold.of hS (bks := []) kr hD) ?_
       intro hH
       refine only 47 kr (by rfl) (fieldA (off := 3) (fsz := 1) (ft := 50) (TF := (tSlice tI)) (y := (gi b_ i_103).Hints) T hS kr kr kr h466 kr kr kr (fun cs h => Api_Step_f3 h) ?_)
       intro A473 a h474 hS
       refine andH (Hold.of hS (bks := []) kr hD) ?_
       intro hH
       refine only 48 kr (by rfl) (load1 T hS kr kr kr h474 rfl kr ?_)
       intro v475 a hv hS
       obtain ⟨a476, c477, hv, h478⟩ := hv
       cases hv
       refine andH (Hold.of hS (bks := []) kr hD) ?_
       intro hH
       exact H _ _ ⟨_, A419, A467, a470, c471, A465, A473, a476, c477, hS.sl _, hO, hD, hH, h101, h102, h120, h122, h125, h127, h130, h132, h136, h138, h140, h144, h420, h468, h472, h466, h474, h478⟩
      refine oneOp (by rfl) (fieldA (off := 3) (fsz := 1) (ft := 50) (TF := (tSlice tI)) (y := (gi b_ i_103).Hints) T hS kr kr kr h466 kr kr kr (fun cs h => Api_Step_f3 h) ?_)
      intro A479 a h480 hS
      refine andH (Hold.of hS (bks := []) kr hD) ?_
      intro hH
      refine anyOf (is := [43, 48]) kr (by decide) ?_
      intro i hi
      rcases mem2 hi with rfl | rfl
      ·refine oneOp (by rfl) (load1 T hS kr kr kr h468 rfl kr ?_)
       intro v481 a hv hS
       obtain ⟨a482, c483, hv, h484⟩ := hv
       cases hv
       refine andH (Hold.of hS (bks := []) kr hD) ?_
       intro hH
       refine only 48 kr (by rfl) (load1 T hS kr kr kr h480 rfl kr ?_)
       intro v485 a hv hS
       obtain ⟨a486, c487, hv, h488⟩ := hv
       cases hv
       refine andH (Hold.of hS (bks := []) kr hD) ?_
       intro hH
       exact H _ _ ⟨_, A419, A467, a482, c483, A465, A479, a486, c487, hS.sl _, hO, hD, hH, h101, h102, h120, h122, h125, h127, h130, h132, h136, h138, h140, h144, h420, h468, h484, h466, h480, h488⟩
      refine oneOp (by rfl) (load1 T hS kr kr kr h480 rfl kr ?_)
      intro v489 a hv hS
      obtain ⟨a490, c491, hv, h492⟩ := hv
      cases hv
      refine andH (Hold.of hS (bks := []) kr hD) ?_
      intro hH
      refine only 43 kr (by rfl) (load1 T hS kr kr kr h468 rfl kr ?_)
      intro v493 a hv hS
      obtain ⟨a494, c495, hv, h496⟩ := hv
      cases hv
      refine andH (Hold.of hS (bks := []) kr hD) ?_
      intro hH
      exact H _ _ ⟨_, A419, A467, a494, c495, A465, A479, a490, c491, hS.sl _, hO, hD, hH, h101, h102, h120, h122, h125, h127, h130, h132, h136, h138, h140, h144, h420, h468, h496, h466, h480, h492⟩
     refine oneOp (by rfl) (fieldA (off := 3) (fsz := 1) (ft := 50) (TF := (tSlice tI)) (y := (gi b_ i_103).Hints) T hS kr kr kr h466 kr kr kr (fun cs h => Api_Step_f3 h) ?_)
     intro A497 a h498 hS
     refine andH (Hold.of hS (bks := []) kr hD) ?_
     intro hH
     refine anyOf (is := [42, 48]) kr (by decide) ?_
     intro i hi
     rcases mem2 hi with rfl | rfl
     ·refine oneOp (by rfl) (fieldA (off := 3) (fsz := 1) (ft := 50) (TF := (tSlice tI)) (y := (gi a_ i_103).Hints) T hS kr kr kr h420 kr kr kr (fun cs h => Api_Step_f3 h) ?_)
      intro A499 a h500 hS
      refine andH (Hold.of hS (bks := []) kr hD) ?_
      intro hH
      refine anyOf (is := [43, 48]) kr (by decide) ?_
      intro i hi
      rcases mem2 hi with rfl | rfl
      ·refine oneOp (by rfl) (load1 T hS kr kr kr h500 rfl kr ?_)
       intro v501 a hv hS
       obtain ⟨a502, c503, hv, h504⟩ := hv
       cases hv
       refine andH (Hold.of hS (bks := []) kr hD) ?_
       intro hH
       refine only 48 kr (by rfl) (load1 T hS kr kr kr h498 rfl kr ?_)
       intro v505 a hv hS
       obtain ⟨a506, c507, hv, h508⟩ := hv
       cases hv
       refine andH (Hold.of hS (bks := []) kr hD) ?_
       intro hH
       exact H _ _ ⟨_, A419, A499, a502, c503, A465, A497, a506, c507, hS.sl _, hO, hD, hH, h101, h102, h120, h122, h125, h127, h130, h132, h136, h138, h140, h144, h420, h500, h504, h466, h498, h508⟩
      refine oneOp (by rfl) (load1 T hS kr kr kr h498 rfl kr ?_)
      intro v509 a hv hS
      obtain ⟨a510, c511, hv, h512⟩ := hv
      cases hv
      refine andH (Hold.of hS (bks := []) kr hD) ?_
      intro hH
      refine only 43 kr (by rfl) (load1 T hS kr kr kr h500 rfl kr ?_)
      intro v513 a hv hS
      obtain ⟨a514, c515, hv, h516⟩ := hv
      cases hv
      refine andH (Hold.of hS (bks := []) kr hD) ?_
      intro hH
      exact H _ _ ⟨_, A419, A499, a514, c515, A465, A497, a510, c511, hS.sl _, hO, hD, hH, h101, h102, h120, h122, h125, h127, h130, h132, h136, h138, h140, h144, h420, h500, h516, h466, h498, h512⟩
     refine oneOp (by rfl) (load1 T hS kr kr kr h498 rfl kr ?_)
     intro v517 a hv hS
     obtain ⟨a518, c519, hv, h520⟩ := hv
     cases hv
     refine andH (Hold.of hS (bks := []) kr hD) ?_
     intro hH
     refine only 42 kr (by rfl) (fieldA (off := 3) (fsz := 1) (ft := 50) (TF := (tSlice tI)) (y := (gi a_ i_103).Hints) T hS kr kr kr h420 kr kr kr (fun cs h => Api_Step_f3 h) ?_)
     intro A521 a h522 hS
     refine andH (Hold.of hS (bks := []) kr hD) ?_
     intro hH
     refine only 43 kr (by rfl) (load1 T hS kr kr kr h522 rfl kr ?_)
     intro v523 a hv hS
     obtain ⟨a524, c525, hv, h526⟩ := hv
     cases hv
     refine andH (Hold.of hS (bks := []) kr hD) ?_
     intro hH
     exact H _ _ ⟨_, A419, A521, a524, c525, A465, A497, a518, c519, hS.sl _, hO, hD, hH, h101, h102, h120, h122, h125, h127, h130, h132, h136, h138, h140, h144, h420, h522, h526, h466, h498, h520⟩
    have hq := hgq46
    refine oneOp (by rfl) (index (e := 98) (k := .i64) T hS kr kr kr kr h102 kr kr hq.1 hq.2 ?_)
    intro A527 a h528 hS
    refine andH (Hold.of hS (bks := []) kr hD) ?_
    intro hH
    refine anyOf (is := [41, 47]) kr (by decide) ?_
    intro i hi
    rcases mem2 hi with rfl | rfl
    ·have hq := hgq41
     refine oneOp (by rfl) (index (e := 98) (k := .i64) T hS kr kr kr kr h101 kr kr hq.1 hq.2 ?_)
     intro A529 a h530 hS
     refine andH (Hold.of hS (bks := []) kr hD) ?_
     intro hH
     refine anyOf (is := [42, 47]) kr (by decide) ?_
     intro i hi
     rcases mem2 hi with rfl | rfl
     ·refine oneOp (by rfl) (fieldA (off := 3) (fsz := 1) (ft := 50) (TF := (tSlice tI)) (y := (gi a_ i_103).Hints) T hS kr kr kr h530 kr kr kr (fun cs h => Api_Step_f3 h) ?_)
      intro A531 a h532 hS
      refine andH (Hold.of hS (bks := []) kr hD) ?_
      intro hH
      refine anyOf (is := [43, 47]) kr (by decide) ?_
      intro i hi
      rcases mem2 hi with rfl | rfl
      ·refine oneOp (by rfl) (load1 T hS kr kr kr h532 rfl kr ?_)
       intro v533 a hv hS
       obtain ⟨a534, c535, hv, h536⟩ := hv
       cases hv
       refine andH (Hold.of hS (bks := []) kr hD) ?_
       intro hH
       refine only 47 kr (by rfl) (fieldA (off := 3) (fsz := 1) (ft := 50) (TF := (tSlice tI)) (y := (gi b_ i_103).Hints) T hS kr kr kr h528 kr kr kr (fun cs h => Api_Step_f3 h) ?_)
       intro A537 a h538 hS
       refine andH (Hold.of hS (bks := []) kr hD) ?_
       intro hH
       refine only 48 kr (by rfl) (load1 T hS kr kr kr h538 rfl kr ?_)
       intro v539 a hv hS
       obtain ⟨a540, c541, hv, h542⟩ := hv
       cases hv
       refine andH (Hold.of hS (bks := []) kr hD) ?_
       intro hH
       exact H _ _ ⟨_, A529, A531, a534, c535, A527, A537, a540, c541, hS.sl _, hO, hD, hH, h101, h102, h120, h122, h125, h127, h130, h132, h136, h138, h140, h144, h530, h532, h536, h528, h538, h542⟩
      refine oneOp (by rfl) (fieldA (off := 3) (fsz := 1) (ft := 50) (TF := (tSlice tI)) (y := (gi b_ i_103).Hints) T hS kr kr kr h528 kr kr kr (fun cs h => Api_Step_f3 h) ?_)
      intro A543 a h544 hS
      refine andH (Hold.of hS (bks := []) kr hD) ?_
      intro hH
      refine anyOf (is := [43, 48]) kr (by decide) ?_
      intro i hi
      rcases mem2 hi with rfl | rfl
      ·refine oneOp (by rfl) (load1 T hS kr kr kr h532 rfl kr ?_)
       intro v545 a hv hS
       obtain ⟨a546, c547, hv, h548⟩ := hv
       cases hv
       refine andH (Hold.of hS (bks := []) kr hD) ?_
       intro hH
       refine only 48 kr (by rfl) (load1 T hS kr kr kr h544 rfl kr ?_)
       intro v549 a hv hS
       obtain ⟨a550, c551, hv, h552⟩ := hv
       cases hv
       refine andH (Hold.of hS (bks := []) kr hD) ?_
       intro hH
       exact H _ _ ⟨_, A529, A531, a546, c547, A527, A543, a550, c551, hS.sl _, hO, hD, hH, h101, h102, h120, h122, h125, h127, h130, h132, h136, h138, h140, h144, h530, h532, h548, h528, h544, h552⟩
      refine oneOp (by rfl) (load1 T hS kr kr kr h544 rfl kr ?_)
      intro v553 a hv hS
      obtain ⟨a554, c555, hv, h556⟩ := hv
      cases hv
      refine andH (Hold.of hS (bks := []) kr hD) ?_
      intro hH
      refine only 43 kr (by rfl) (load1 T hS kr kr kr h532 rfl kr ?_)
      intro v557 a hv hS
      obtain ⟨a558, c559, hv, h560⟩ := hv
      cases hv
      refine andH (Hold.of hS (bks := []) kr hD) ?_
      intro hH
      exact H _ _ ⟨_, A529, A531, a558, c559, A527, A543, a554, c555, hS.sl _, hO, hD, hH, h101, h102, h120, h122, h125, h127, h130, h132, h136, h138, h140, h144, h530, h532, h560, h528, h544, h556⟩
     refine oneOp (by rfl) (fieldA (off := 3) (fsz := 1) (ft := 50) (TF := (tSlice tI)) (y := (gi b_ i_103).Hints) T hS kr kr kr h528 kr kr kr (fun cs h => Api_Step_f3 h) ?_)
     intro A561 a h562 hS
     refine andH (Hold.of hS (bks := []) kr hD) ?_
     intro hH
     refine anyOf (is := [42, 48]) kr (by decide) ?_
     intro i hi
     rcases mem2 hi with rfl | rfl
     ·refine oneOp (by rfl) (fieldA (off := 3) (fsz := 1) (ft := 50) (TF := (tSlice tI)) (y := (gi a_ i_103).Hints) T hS kr kr kr h530 kr kr kr (fun cs h => Api_Step_f3 h) ?_)
      intro A563 a h564 hS
      refine andH (Hold.of hS (bks := []) kr hD) ?_
      intro hH
      refine anyOf (is := [43, 48]) kr (by decide) ?_
      intro i hi
      rcases mem2 hi with rfl | rfl
      ·refine oneOp (by rfl) (load1 T hS kr kr kr h564 rfl kr ?_)
       intro v565 a hv hS
       obtain ⟨a566, c567, hv, h568⟩ := hv
       cases hv
       refine andH (Hold.of hS (bks := []) kr hD) ?_
       intro hH
       refine only 48 kr (by rfl) (load1 T hS kr kr kr h562 rfl kr ?_)
       intro v569 a hv hS
       obtain ⟨a570, c571, hv, h572⟩ := hv
       cases hv
       refine andH (Hold.of hS (bks := []) kr hD) ?_
       intro hH
       exact H _ _ ⟨_, A529, A563, a566, c567, A527, A561, a570, c571, hS.sl _, hO, hD, hH, h101, h102, h120, h122, h125, h127, h130, h132, h136, h138, h140, h144, h530, h564, h568, h528, h562, h572⟩
      refine oneOp (by rfl) (load1 T hS kr kr kr h562 rfl kr ?_)
      intro v573 a hv hS
      obtain ⟨a574, c575, hv, h576⟩ := hv
      cases hv
      refine andH (Hold.of hS (bks := []) kr hD) ?_
      intro hH
      refine only 43 kr (by rfl) (load1 T hS kr kr kr h564 rfl kr ?_)
      intro v577 a hv hS
      obtain ⟨a578, c579, hv, h580⟩ := hv
      cases hv
      refine andH (Hold.of hS (bks := []) kr hD) ?_
      intro hH
      exact H _ _ ⟨_, A529, A563, a578, c579, A527, A561, a574, c575, hS.sl _, hO, hD, hH, h101, h102, h120, h122, h125, h127, h130, h132, h136, h138, h140, h144, h530, h564, h580, h528, h562, h576⟩
     refine oneOp (by rfl) (load1 T hS kr kr kr h562 rfl kr ?_)
     intro v581 a hv hS
     obtain ⟨a582, c583, hv, h584⟩ := hv
     cases hv
     refine andH (Hold.of hS (bks := []) kr hD) ?_
     intro hH
     refine only 42 kr (by rfl) (fieldA (off := 3) (fsz := 1) (ft := 50) (TF := (tSlice tI)) (y := (gi a_ i_103).Hints) T hS kr kr kr h530 kr kr kr (fun cs h => Api_Step_f3 h) ?_)
     intro A585 a h586 hS
     refine andH (Hold.of hS (bks := []) kr hD) ?_
     intro hH
     refine only 43 kr (by rfl) (load1 T hS kr kr kr h586 rfl kr ?_)
     intro v587 a hv hS
     obtain ⟨a588, c589, hv, h590⟩ := hv
     cases hv
     refine andH (Hold.of hS (bks := []) kr hD) ?_
     intro hH
     exact H _ _ ⟨_, A529, A585, a588, c589, A527, A561, a582, c583, hS.sl _, hO, hD, hH, h101, h102, h120, h122, h125, h127, h130, h132, h136, h138, h140, h144, h530, h586, h590, h528, h562, h584⟩
    refine oneOp (by rfl) (fieldA (off := 3) (fsz := 1) (ft := 50) (TF := (tSlice tI)) (y := (gi b_ i_103).Hints) T hS kr kr kr h528 kr kr kr (fun cs h => Api_Step_f3 h) ?_)
    intro A591 a h592 hS
    refine andH (Hold.of hS (bks := []) kr hD) ?_
    intro hH
    refine anyOf (is := [41, 48]) kr (by decide) ?_
    intro i hi
    rcases mem2 hi with rfl | rfl
    ·have hq := hgq41
     refine oneOp (by rfl) (index (e := 98) (k := .i64) T hS kr kr kr kr h101 kr kr hq.1 hq.2 ?_)
     intro A593 a h594 hS
     refine andH (Hold.of hS (bks := []) kr hD) ?_
     intro hH
     refine anyOf (is := [42, 48]) kr (by decide) ?_
     intro i hi
     rcases mem2 hi with rfl | rfl
     ·refine oneOp (by rfl) (fieldA (off := 3) (fsz := 1) (ft := 50) (TF := (tSlice tI)) (y := (gi a_ i_103).Hints) T hS kr kr kr h594 kr kr kr (fun cs h => Api_Step_f3 h) ?_)
      intro A595 a h596 hS
      refine andH (Hold.of hS (bks := []) kr hD) ?_
      intro hH
      refine anyOf (is := [43, 48]) kr (by decide) ?_
      intro i hi
      rcases mem2 hi with rfl | rfl
      ·refine oneOp (by rfl) (load1 T hS kr kr kr h596 rfl kr ?_)
       intro v597 a hv hS
       obtain ⟨a598, c599, hv, h600⟩ := hv
       cases hv
       refine andH (Hold.of hS (bks := []) kr hD) ?_
       intro hH
       refine only 48 kr (by rfl) (load1 T hS kr kr kr h592 rfl kr ?_)
       intro v601 a hv hS
       obtain ⟨a602, c603, hv, h604⟩ := hv
       cases hv
       refine andH (Hold.of hS (bks := []) kr hD) ?_
       intro hH
       exact H _ _ ⟨_, A593, A595, a598, c599, A527, A591, a602, c603, hS.sl _, hO, hD, hH, h101, h102, h120, h122, h125, h127, h130, h132, h136, h138, h140, h144, h594, h596, h600, h528, h592, h604⟩
      refine oneOp (by rfl) (load1 T hS kr kr kr h592 rfl kr ?_)
      intro v605 a hv hS
      obtain ⟨a606, c607, hv, h608⟩ := hv
      cases hv
      refine andH (Hold.of hS (bks := []) kr hD) ?_
      intro hH
      refine only 43 kr (by rfl) (load1 T hS kr kr kr h596 rfl kr ?_)
      intro v609 a hv hS
      obtain ⟨a610, c611, hv, h612⟩ := hv
      cases hv
      refine andH (Hold.of hS (bks := []) kr hD) ?_
      intro hH
      exact H _ _ ⟨_, A593, A595, a610, c611, A527, A591, a606, c607, hS.sl _, hO, hD, hH, h101, h102, h120, h122, h125, h127, h130, h132, h136, h138, h140, h144, h594, h596, h612, h528, h592, h608⟩
     refine oneOp (by rfl) (load1 T hS kr kr kr h592 rfl kr ?_)
     intro v613 a hv hS
     obtain ⟨a614, c615, hv, h616⟩ := hv
     cases hv
     refine andH (Hold.of hS (bks := []) kr hD) ?_
     intro hH
     refine only 42 kr (by rfl) (fieldA (off := 3) (fsz := 1) (ft := 50) (TF := (tSlice tI)) (y := (gi a_ i_103).Hints) T hS kr kr kr h594 kr kr kr (fun cs h => Api_Step_f3 h) ?_)
     intro A617 a h618 hS
     refine andH (Hold.of hS (bks := []) kr hD) ?_
     intro hH
     refine only 43 kr (by rfl) (load1 T hS kr kr kr h618 rfl kr ?_)
     intro v619 a hv hS
     obtain ⟨a620, c621, hv, h622⟩ := hv
     cases hv
     refine andH (Hold.of hS (bks := []) kr hD) ?_
     intro hH
     exact H _ _ ⟨_, A593, A617, a620, c621, A527, A591, a614, c615, hS.sl _, hO, hD, hH, h101, h102, h120, h122, h125, h127, h130, h132, h136, h138, h140, h144, h594, h618, h622, h528, h592, h616⟩
    refine oneOp (by rfl) (load1 T hS kr kr kr h592 rfl kr ?_)
    intro v623 a hv hS
    obtain ⟨a624, c625, hv, h626⟩ := hv
    cases hv
    refine andH (Hold.of hS (bks := []) kr hD) ?_
    intro hH
    have hq := hgq41
    refine only 41 kr (by rfl) (index (e := 98) (k := .i64) T hS kr kr kr kr h101 kr kr hq.1 hq.2 ?_)
    intro A627 a h628 hS
    refine andH (Hold.of hS (bks := []) kr hD) ?_
    intro hH
    refine only 42 kr (by rfl) (fieldA (off := 3) (fsz := 1) (ft := 50) (TF := (tSlice tI)) (y := (gi a_ i_103).Hints) T hS kr kr kr h628 kr kr kr (fun cs h => Api_Step_f3 h) ?_)
    intro A629 a h630 hS
    refine andH (Hold.of hS (bks := []) kr hD) ?_
    intro hH
    refine only 43 kr (by rfl) (load1 T hS kr kr kr h630 rfl kr ?_)
    intro v631 a hv hS
    obtain ⟨a632, c633, hv, h634⟩ := hv
    cases hv
    refine andH (Hold.of hS (bks := []) kr hD) ?_
    intro hH
    exact H _ _ ⟨_, A627, A629, a632, c633, A527, A591, a624, c625, hS.sl _, hO, hD, hH, h101, h102, h120, h122, h125, h127, h130, h132, h136, h138, h140, h144, h628, h630, h634, h528, h592, h626⟩
   rintro a w642 ⟨ρ, χ641, x_106, hm, hS, hO, h104, h105⟩
   unfold VC30_J2 at hm
   refine wcond hS (b := x_106) kr (fun hb => ?_) (fun hb => ?_)
   ·replace hm := hm.1 hb
    refine rP T hS ⟨[(4, B false)], []⟩ fun a hS => ?_
    refine wret ?_
    exact fin T hS hO (fun c => c) rfl (r := [.bool false]) kr (fun χ' hM hC => ⟨false, hm, rfl⟩)
   replace hm := hm.2 hb
   refine wskip ?_
   refine region (eP T hS ⟨[(0, Sl a1 a_ c1), (1, Sl a2 b_ c2), (5, I (wR (i_103 + 1)))], []⟩ fun a hS => ?_)
   exact ⟨wR (i_103 + 1), ⟨ρ, _, hm.1, hS.sl _, hO, h104, h105⟩, hm.2⟩
  replace hm := hm.2 hb
  refine wexit (by rfl) ?_
  exact ⟨ρ, _, hm, hS.sl _, hO⟩
 rintro a w646 ⟨ρ, χ645, hm, hS, hO⟩
 unfold VC30_J1 at hm
 refine rP T hS ⟨[(4, B true)], []⟩ fun a hS => ?_
 refine wret ?_
 exact fin T hS hO (fun c => c) rfl (r := [.bool true]) kr (fun χ' hM hC => ⟨true, hm, rfl⟩)
theorem C30 (k54 : S54) (v : ∀ (a_ : List Api_Step) (b_ : List Api_Step), VC30 a_ b_ (fun r => r = ref10_Same a_ b_)) : S30 := by
 intro w χ a_ b_ a1 c1 a2 c2   h1 h2
 refine (W30 k54 w χ a_ b_ a1 c1 a2 c2   _ (v a_ b_) h1 h2).mono ?_
 rintro _ _ _ _ ⟨r, rfl, h⟩
 exact h
theorem W71 (k87 : S87) (w0 : World) (χ0 : Nat → Nat) (l_ : List Token_Token) (word : List UInt8) (lo : List Int) (hi : List Int) (end_ : Int) (a1 : Option Addr) (c1 : Nat) (a2 : Option Addr) (c2 : Nat) (a3 : Option Addr) (c3 : Nat) (Q : (List Int) × Int × Int → Prop) (hm : VC71 l_ word lo hi end_ Q) (h1 : RS tToken_Token w0 χ0 a1 l_ c1) (h2 : RS tI w0 χ0 a2 lo c2) (h3 : RS tI w0 χ0 a3 hi c3) :
  Ret Tryz.prog 71 #[.slice a1 l_.length c1, .string (bs word), .slice a2 lo.length c2, .slice a3 hi.length c3, .int .i64 end_] xnone w0 χ0 (fun w χ' v => ∃ r, Q r ∧ ∃ (ra1 : Option Addr) (rc1 : Nat), v = .tuple #[.slice ra1 r.1.length rc1, .int .i64 r.2.1, .int .i64 r.2.2] ∧ RS tI w χ' ra1 r.1 rc1) := by
 unfold VC71 at hm
 replace hm := hm (h1.sm kr)
 replace hm := hm (h2.sm kr)
 replace hm := hm (h3.sm kr)
 refine enter Tryz.func71 rfl (vals := [.slice a1 l_.length c1, .string (bs word), .slice a2 lo.length c2, .slice a3 hi.length c3, .int .i64 end_]) kr ?_
 intro ρ a hS hO hM
 replace h1 := h1.m0 hM
 replace h2 := h2.m0 hM
 replace h3 := h3.m0 hM
 clear hM
 refine rP T hS ⟨[(0, Sl a1 l_ c1), (1, Z word), (2, Sl a2 lo c2), (3, Sl a3 hi c3), (4, I end_)], []⟩ fun a hS => ?_
 refine wseq (rP T hS ⟨[(0, Sl a1 l_ c1), (1, Z word), (2, Sl a2 lo c2), (3, Sl a3 hi c3), (4, I end_), (21, B ((lN l_) == 0))], []⟩ fun a hS => ?_)
 refine wcond hS (b := ((lN l_) == 0)) kr (fun hb => ?_) (fun hb => ?_)
 ·replace hm := hm.1 hb
  refine rP T hS ⟨[(10, V (.slice none 0 0)), (11, I end_), (12, I 4)], []⟩ fun a hS => ?_
  refine wret ?_
  exact fin T hS hO (fun c => c) rfl (r := [.slice none 0 0, .int .i64 end_, .int .i64 4]) kr (fun χ' hM hC => ⟨([], end_, 4), hm, none, 0, rfl, RS.empty _ _ _⟩)
 replace hm := hm.2 hb
 refine wskip (wseq ?_)
 refine regO ?_
 refine oP T hS 1 ⟨[(0, Sl a1 l_ c1), (1, Z word), (2, Sl a2 lo c2), (3, Sl a3 hi c3), (4, I end_), (23, Sl a1 l_ c1)], []⟩ fun a hS => ?_
 obtain ⟨hq, hm⟩ := hm
 refine op1 (index (e := 60) (k := .i64) T hS kr kr kr kr h1 kr kr hq.1 hq.2 ?_)
 intro A101 a h102 hS
 refine op1 (fieldA (off := 2) (fsz := 1) (ft := 9) (TF := tStr) (y := (gi l_ 0).Text) T hS kr kr kr h102 kr kr kr (fun cs h => Token_Token_f2 h) ?_)
 intro A103 a h104 hS
 refine op1 (load1 T hS kr kr kr h104 rfl kr ?_)
 intro v105 a hv hS
 cases hv
 refine eP T hS ⟨[(0, Sl a1 l_ c1), (2, Sl a2 lo c2), (3, Sl a3 hi c3), (4, I end_), (28, B (!(((gi l_ 0).Text) == word)))], []⟩ fun a hS => ?_
 refine wcond hS (b := (!(((gi l_ 0).Text) == word))) kr (fun hb => ?_) (fun hb => ?_)
 ·replace hm := hm.1 hb
  refine drawnSX [] mixed hS ?_
  intro w106 χ107 hS hE hD hH
  replace hO := hO.mv hE rfl rfl
  replace h1 := h1.mv hE rfl
  refine tk T [0, 4] [] hS hH #[true, false, false, false, true, false, false] 5 ⟨[(10, V (.slice none 0 0)), (29, Sl a1 l_ c1)], []⟩ fun a hS => ?_
  obtain ⟨hq, hm⟩ := hm
  refine dindex (e := 60) (k := .i64) T 1 hS kr kr kr (by rfl) kr hH kr kr h1 kr kr hq.1 hq.2 ?_
  intro A108 a h109 hS
  have h109b := h109.here
  refine dfieldA (off := 1) (fsz := 1) (ft := 3) (TF := tI) (y := (gi l_ 0).At) 2 T hS kr kr kr (by rfl) kr hH kr h109 kr kr kr (fun cs h => Token_Token_f1 h) ?_
  intro A110 a h111 hbl hS
  have h111b := h109b
  rw [← hbl] at h111b
  clear hbl
  refine dload1 T 3 hS kr kr kr (by rfl) kr hH kr h111 h111b rfl kr ?_
  intro v112 a hv hS
  cases hv
  refine tk T [5, 6] [] hS hH #[true, true, true, true, true, true, true] 0 ⟨[(10, V (.slice none 0 0)), (11, I ((gi l_ 0).At)), (12, I 8)], []⟩ fun a hS => ?_
  refine drawnDone kr ?_
  clear hD hH
  replace hS := hS.sl ⟨[(10, V (.slice none 0 0)), (11, I ((gi l_ 0).At)), (12, I 8)], []⟩
  refine wret ?_
  exact fin T hS hO (fun c => c) rfl (r := [.slice none 0 0, .int .i64 ((gi l_ 0).At), .int .i64 8]) kr (fun χ' hM hC => ⟨([], (gi l_ 0).At, 8), hm, none, 0, rfl, RS.empty _ _ _⟩)
 replace hm := hm.2 hb
 refine wskip ?_
 refine regO ?_
 refine oP T hS 4 ⟨[(0, Sl a1 l_ c1), (2, Sl a2 lo c2), (3, Sl a3 hi c3), (4, I end_), (33, Sl a1 l_ c1), (36, I (wR ((lN l_) - 1)))], []⟩ fun a hS => ?_
 obtain ⟨hq, hm⟩ := hm
 refine op1 (index (e := 60) (k := .i64) T hS kr kr kr kr h1 kr kr hq.1 hq.2 ?_)
 intro A113 a h114 hS
 refine op1 (loadA T hS kr kr kr h114 kr kr ?_)
 intro v115 a hv hS
 subst hv
 refine eM T hS ⟨[(0, Sl a1 l_ c1), (2, Sl a2 lo c2), (3, Sl a3 hi c3), (4, I end_), (13, Pt 14 0)], [(14, (60, [I ((gi l_ (wR ((lN l_) - 1))).Line), I ((gi l_ (wR ((lN l_) - 1))).At), Z ((gi l_ (wR ((lN l_) - 1))).Text)]))]⟩ fun ρ a w172 χ173 hS hE hr => ?_
 replace hO := hO.mv hE rfl rfl
 replace h1 := h1.mv hE rfl
 replace h2 := h2.mv hE rfl
 replace h3 := h3.mv hE rfl
 clear hE hr
 refine rP T hS ⟨[(0, Sl a1 l_ c1), (2, Sl a2 lo c2), (3, Sl a3 hi c3), (4, I end_), (13, Pt 14 0), (14, V (.slice none 0 0))], [(14, (60, [I ((gi l_ (wR ((lN l_) - 1))).Line), I ((gi l_ (wR ((lN l_) - 1))).At), Z ((gi l_ (wR ((lN l_) - 1))).Text)]))]⟩ fun a hS => ?_
 refine wcut (fun a w => ∃ (ρ : Nat → Nat) (χ : Nat → Nat) (out_117 : List Int) (a118 : Option Addr) (c119 : Nat), VC71_J1 l_ end_ Q out_117 ∧ St Tryz.f71.ntmps ⟨[(0, Sl a1 l_ c1), (4, I end_), (14, Sl a118 out_117 c119)], []⟩ ρ a w χ ∧ Old w0 χ0 w χ ∧ RS tToken_Token w χ a1 l_ c1 ∧ OS tI 3 w χ 1011 a118 out_117 c119) ?_ ?_
 ·refine rP T hS ⟨[(0, Sl a1 l_ c1), (2, Sl a2 lo c2), (3, Sl a3 hi c3), (4, I end_), (13, Pt 14 0), (14, V (.slice none 0 0)), (43, I (if (lN hi) < (lN lo) then (lN hi) else (lN lo))), (44, I 0)], [(14, (60, [I ((gi l_ (wR ((lN l_) - 1))).Line), I ((gi l_ (wR ((lN l_) - 1))).At), Z ((gi l_ (wR ((lN l_) - 1))).Text)]))]⟩ fun a hS => ?_
  refine wblock ?_
  obtain ⟨I1, μ1, hm0, hm⟩ := hm
  refine wloop (σ := (List Int) × Int) (fun s a w => ∃ (ρ : Nat → Nat) (χ : Nat → Nat) (a134 : Option Addr) (c135 : Nat), I1 s.1 s.2 ∧ St Tryz.f71.ntmps ⟨[(0, Sl a1 l_ c1), (2, Sl a2 lo c2), (3, Sl a3 hi c3), (4, I end_), (13, Pt 14 0), (14, Sl a134 s.1 c135), (43, I (if (lN hi) < (lN lo) then (lN hi) else (lN lo))), (44, I s.2)], [(14, (60, [I ((gi l_ (wR ((lN l_) - 1))).Line), I ((gi l_ (wR ((lN l_) - 1))).At), Z ((gi l_ (wR ((lN l_) - 1))).Text)]))]⟩ ρ a w χ ∧ Old w0 χ0 w χ ∧ RS tToken_Token w χ a1 l_ c1 ∧ RS tI w χ a2 lo c2 ∧ RS tI w χ a3 hi c3 ∧ OS tI 3 w χ 1011 a134 s.1 c135) (fun s => μ1 s.1 s.2) (⟨[], 0⟩) ?_ ?_
  ·exact ⟨ρ, _, none, 0, hm0, hS.sl _, hO, h1, h2, h3, (OS.nil _ _ _ _ _)⟩
  rintro ⟨out_133, x_137⟩ a w169 ⟨ρ, χ168, a134, c135, hI, hS, hO, h130, h131, h132, h136⟩
  replace hm := hm out_133 x_137 hI
  clear hI hm0
  refine rP T hS ⟨[(0, Sl a1 l_ c1), (2, Sl a2 lo c2), (3, Sl a3 hi c3), (4, I end_), (13, Pt 14 0), (14, Sl a134 out_133 c135), (43, I (if (lN hi) < (lN lo) then (lN hi) else (lN lo))), (44, I x_137), (45, B (decide (x_137 < (if (lN hi) < (lN lo) then (lN hi) else (lN lo)))))], [(14, (60, [I ((gi l_ (wR ((lN l_) - 1))).Line), I ((gi l_ (wR ((lN l_) - 1))).At), Z ((gi l_ (wR ((lN l_) - 1))).Text)]))]⟩ fun a hS => ?_
  refine wseq ?_
  refine wcond hS (b := decide (x_137 < (if (lN hi) < (lN lo) then (lN hi) else (lN lo)))) kr (fun hb => ?_) (fun hb => ?_)
  ·replace hm := hm.1 hb
   refine wskip (wseq ?_)
   refine wblock ?_
   refine rP T hS ⟨[(0, Sl a1 l_ c1), (2, Sl a2 lo c2), (3, Sl a3 hi c3), (4, I end_), (13, Pt 14 0), (14, Sl a134 out_133 c135), (15, I x_137), (43, I (if (lN hi) < (lN lo) then (lN hi) else (lN lo))), (44, I x_137)], [(14, (60, [I ((gi l_ (wR ((lN l_) - 1))).Line), I ((gi l_ (wR ((lN l_) - 1))).At), Z ((gi l_ (wR ((lN l_) - 1))).Text)]))]⟩ fun a hS => ?_
   refine wseq (rP T hS ⟨[(0, Sl a1 l_ c1), (2, Sl a2 lo c2), (3, Sl a3 hi c3), (4, I end_), (13, Pt 14 0), (14, Sl a134 out_133 c135), (15, I x_137), (43, I (if (lN hi) < (lN lo) then (lN hi) else (lN lo))), (44, I x_137), (51, B (decide ((wR (x_137 + 1)) ≥ (lN l_))))], [(14, (60, [I ((gi l_ (wR ((lN l_) - 1))).Line), I ((gi l_ (wR ((lN l_) - 1))).At), Z ((gi l_ (wR ((lN l_) - 1))).Text)]))]⟩ fun a hS => ?_)
   refine wcond hS (b := decide ((wR (x_137 + 1)) ≥ (lN l_))) kr (fun hb => ?_) (fun hb => ?_)
   ·replace hm := hm.1 hb
    refine drawnSX [14] mixed hS ?_
    intro w138 χ139 hS hE hD hH
    replace hO := hO.mv hE rfl rfl
    refine tk T [0, 2, 6, 1, 3, 4, 5, 7, 8] [14] hS hH #[true, true, true, true, true, true, true, true, true] 0 ⟨[(10, V (.slice none 0 0)), (11, I (wR (((gi l_ (wR ((lN l_) - 1))).At) + ((((gi l_ (wR ((lN l_) - 1))).Text).length : Nat) : Int)))), (12, I 4)], [(14, (60, [I ((gi l_ (wR ((lN l_) - 1))).Line), I ((gi l_ (wR ((lN l_) - 1))).At), Z ((gi l_ (wR ((lN l_) - 1))).Text)]))]⟩ fun a hS => ?_
    refine drawnDone kr ?_
    clear hD hH
    replace hS := hS.sl ⟨[(10, V (.slice none 0 0)), (11, I (wR (((gi l_ (wR ((lN l_) - 1))).At) + ((((gi l_ (wR ((lN l_) - 1))).Text).length : Nat) : Int)))), (12, I 4)], []⟩
    refine wret ?_
    exact fin T hS hO (fun c => c) rfl (r := [.slice none 0 0, .int .i64 (wR (((gi l_ (wR ((lN l_) - 1))).At) + ((((gi l_ (wR ((lN l_) - 1))).Text).length : Nat) : Int))), .int .i64 4]) kr (fun χ' hM hC => ⟨([], wR (((gi l_ (wR ((lN l_) - 1))).At) + ((((gi l_ (wR ((lN l_) - 1))).Text).length : Nat) : Int)), 4), hm, none, 0, rfl, RS.empty _ _ _⟩)
   replace hm := hm.2 hb
   refine wskip ?_
   refine regO ?_
   refine oP T hS 3 ⟨[(0, Sl a1 l_ c1), (2, Sl a2 lo c2), (3, Sl a3 hi c3), (4, I end_), (13, Pt 14 0), (14, Sl a134 out_133 c135), (15, I x_137), (43, I (if (lN hi) < (lN lo) then (lN hi) else (lN lo))), (44, I x_137), (58, Sl a1 l_ c1), (60, I (wR (x_137 + 1)))], [(14, (60, [I ((gi l_ (wR ((lN l_) - 1))).Line), I ((gi l_ (wR ((lN l_) - 1))).At), Z ((gi l_ (wR ((lN l_) - 1))).Text)]))]⟩ fun a hS => ?_
   obtain ⟨hq, hm⟩ := hm
   refine op1 (index (e := 60) (k := .i64) T hS kr kr kr kr h130 kr kr hq.1 hq.2 ?_)
   intro A140 a h141 hS
   refine op1 (loadA T hS kr kr kr h141 kr kr ?_)
   intro v142 a hv hS
   subst hv
   refine eM T hS ⟨[(0, Sl a1 l_ c1), (2, Sl a2 lo c2), (3, Sl a3 hi c3), (4, I end_), (13, Pt 14 0), (14, Sl a134 out_133 c135), (15, I x_137), (16, Pt 17 0), (43, I (if (lN hi) < (lN lo) then (lN hi) else (lN lo))), (44, I x_137)], [(14, (60, [I ((gi l_ (wR ((lN l_) - 1))).Line), I ((gi l_ (wR ((lN l_) - 1))).At), Z ((gi l_ (wR ((lN l_) - 1))).Text)])), (17, (60, [I ((gi l_ (wR (x_137 + 1))).Line), I ((gi l_ (wR (x_137 + 1))).At), Z ((gi l_ (wR (x_137 + 1))).Text)]))]⟩ fun ρ a w166 χ167 hS hE hr => ?_
   replace hO := hO.mv hE rfl rfl
   replace h130 := h130.mv hE rfl
   replace h131 := h131.mv hE rfl
   replace h132 := h132.mv hE rfl
   replace h136 := h136.mv hE rfl rfl
   clear hE hr
   refine drawnSX [14, 17] mixed hS ?_
   intro w143 χ144 hS hE hD hH
   replace hO := hO.mv hE rfl rfl
   replace h130 := h130.mv hE rfl
   replace h131 := h131.mv hE rfl
   replace h132 := h132.mv hE rfl
   replace h136 := h136.mv hE rfl rfl
   refine tk T [0, 2, 3, 6, 7, 1] [14, 17] hS hH #[true, true, true, true, false, false, true, true, false, false, false, false, false, false, false, false] 10 ⟨[(0, Sl a1 l_ c1), (2, Sl a2 lo c2), (3, Sl a3 hi c3), (4, I end_), (13, Pt 14 0), (14, Sl a134 out_133 c135), (16, Pt 17 0), (43, I (if (lN hi) < (lN lo) then (lN hi) else (lN lo))), (44, I x_137), (65, Z ((gi l_ (wR (x_137 + 1))).Text)), (66, Sl a2 lo c2), (67, I x_137), (70, Sl a3 hi c3), (71, I x_137)], [(14, (60, [I ((gi l_ (wR ((lN l_) - 1))).Line), I ((gi l_ (wR ((lN l_) - 1))).At), Z ((gi l_ (wR ((lN l_) - 1))).Text)])), (17, (60, [I ((gi l_ (wR (x_137 + 1))).Line), I ((gi l_ (wR (x_137 + 1))).At), Z ((gi l_ (wR (x_137 + 1))).Text)]))]⟩ fun a hS => ?_
   obtain ⟨hq, hm⟩ := hm
   refine dindex (e := 3) (k := .i64) T 4 hS kr kr kr (by rfl) kr hH kr kr h131 kr kr hq.1 hq.2 ?_
   intro A145 a h146 hS
   have h146b := h146.here
   refine dload1 T 5 hS kr kr kr (by rfl) kr hH kr h146 h146b rfl kr ?_
   intro v147 a hv hS
   cases hv
   obtain ⟨hq, hm⟩ := hm
   refine dindex (e := 3) (k := .i64) T 8 hS kr kr kr (by rfl) kr hH kr kr h132 kr kr hq.1 hq.2 ?_
   intro A148 a h149 hS
   have h149b := h149.here
   refine dload1 T 9 hS kr kr kr (by rfl) kr hH kr h149 h149b rfl kr ?_
   intro v150 a hv hS
   cases hv
   obtain ⟨hq, hm⟩ := hm
   refine only 10 kr (by rfl) (call hS kr kr hb87 kr (fun _ _ => rfl) (k87 _ _ ((gi l_ (wR (x_137 + 1))).Text) (gi lo x_137) (gi hi x_137) hq) ?_)
   intro v151 a w152 χ153 hE hp hS
   replace hO := hO.mv hE rfl rfl
   replace hD := hD.ev hE rfl
   replace h130 := h130.mv hE rfl
   replace h131 := h131.mv hE rfl
   replace h132 := h132.mv hE rfl
   replace h136 := h136.mv hE rfl rfl
   replace h146 := h146.mv hE rfl
   replace h149 := h149.mv hE rfl
   obtain ⟨r154, hr⟩ : ∃ r, token_Number ((gi l_ (wR (x_137 + 1))).Text) (gi lo x_137) (gi hi x_137) = r := ⟨_, rfl⟩
   replace hm := hm r154 hr
   rw [hr] at hp
   clear hr
   subst hp
   replace hS := hS.sl ⟨[(0, Sl a1 l_ c1), (2, Sl a2 lo c2), (3, Sl a3 hi c3), (4, I end_), (13, Pt 14 0), (14, Sl a134 out_133 c135), (16, Pt 17 0), (43, I (if (lN hi) < (lN lo) then (lN hi) else (lN lo))), (44, I x_137), (65, Z ((gi l_ (wR (x_137 + 1))).Text)), (66, Sl a2 lo c2), (67, I x_137), (70, Sl a3 hi c3), (71, I x_137), (68, V (.pointer (some A145))), (69, I (gi lo x_137)), (72, V (.pointer (some A148))), (73, I (gi hi x_137)), (74, V (.tuple #[.int .i64 r154.1, .int .i64 r154.2]))], [(14, (60, [I ((gi l_ (wR ((lN l_) - 1))).Line), I ((gi l_ (wR ((lN l_) - 1))).At), Z ((gi l_ (wR ((lN l_) - 1))).Text)])), (17, (60, [I ((gi l_ (wR (x_137 + 1))).Line), I ((gi l_ (wR (x_137 + 1))).At), Z ((gi l_ (wR (x_137 + 1))).Text)]))]⟩
   refine andH (Hold.of hS (bks := [14, 17]) kr hD) ?_
   intro hH
   refine tk T [11, 12, 13, 14, 15] [14, 17] hS hH #[true, true, true, true, true, true, true, true, true, true, true, true, true, true, true, true] 0 ⟨[(0, Sl a1 l_ c1), (2, Sl a2 lo c2), (3, Sl a3 hi c3), (4, I end_), (13, Pt 14 0), (14, Sl a134 out_133 c135), (16, Pt 17 0), (17, I r154.1), (18, I r154.2), (43, I (if (lN hi) < (lN lo) then (lN hi) else (lN lo))), (44, I x_137)], [(14, (60, [I ((gi l_ (wR ((lN l_) - 1))).Line), I ((gi l_ (wR ((lN l_) - 1))).At), Z ((gi l_ (wR ((lN l_) - 1))).Text)])), (17, (60, [I ((gi l_ (wR (x_137 + 1))).Line), I ((gi l_ (wR (x_137 + 1))).At), Z ((gi l_ (wR (x_137 + 1))).Text)]))]⟩ fun a hS => ?_
   refine drawnDone kr ?_
   clear hD hH
   replace hS := hS.sl ⟨[(0, Sl a1 l_ c1), (2, Sl a2 lo c2), (3, Sl a3 hi c3), (4, I end_), (13, Pt 14 0), (14, Sl a134 out_133 c135), (16, Pt 17 0), (17, I r154.1), (18, I r154.2), (43, I (if (lN hi) < (lN lo) then (lN hi) else (lN lo))), (44, I x_137)], [(14, (60, [I ((gi l_ (wR ((lN l_) - 1))).Line), I ((gi l_ (wR ((lN l_) - 1))).At), Z ((gi l_ (wR ((lN l_) - 1))).Text)])), (17, (60, [I ((gi l_ (wR (x_137 + 1))).Line), I ((gi l_ (wR (x_137 + 1))).At), Z ((gi l_ (wR (x_137 + 1))).Text)]))]⟩
   refine wseq (rP T hS ⟨[(0, Sl a1 l_ c1), (2, Sl a2 lo c2), (3, Sl a3 hi c3), (4, I end_), (13, Pt 14 0), (14, Sl a134 out_133 c135), (16, Pt 17 0), (17, I r154.1), (18, I r154.2), (43, I (if (lN hi) < (lN lo) then (lN hi) else (lN lo))), (44, I x_137), (78, B (r154.2 != 0))], [(14, (60, [I ((gi l_ (wR ((lN l_) - 1))).Line), I ((gi l_ (wR ((lN l_) - 1))).At), Z ((gi l_ (wR ((lN l_) - 1))).Text)])), (17, (60, [I ((gi l_ (wR (x_137 + 1))).Line), I ((gi l_ (wR (x_137 + 1))).At), Z ((gi l_ (wR (x_137 + 1))).Text)]))]⟩ fun a hS => ?_)
   refine wcond hS (b := (r154.2 != 0)) kr (fun hb => ?_) (fun hb => ?_)
   ·replace hm := hm.1 hb
    replace hS := hS.sl ⟨[(16, Pt 17 0), (18, I r154.2)], [(17, (60, [I ((gi l_ (wR (x_137 + 1))).Line), I ((gi l_ (wR (x_137 + 1))).At), Z ((gi l_ (wR (x_137 + 1))).Text)]))]⟩
    refine drawnSX [17] mixed hS ?_
    intro w155 χ156 hS hE hD hH
    replace hO := hO.mv hE rfl rfl
    refine tk T [0, 2, 3, 1, 4, 5] [17] hS hH #[true, true, true, true, true, true] 0 ⟨[(10, V (.slice none 0 0)), (11, I ((gi l_ (wR (x_137 + 1))).At)), (12, I r154.2)], [(17, (60, [I ((gi l_ (wR (x_137 + 1))).Line), I ((gi l_ (wR (x_137 + 1))).At), Z ((gi l_ (wR (x_137 + 1))).Text)]))]⟩ fun a hS => ?_
    refine drawnDone kr ?_
    clear hD hH
    replace hS := hS.sl ⟨[(10, V (.slice none 0 0)), (11, I ((gi l_ (wR (x_137 + 1))).At)), (12, I r154.2)], []⟩
    refine wret ?_
    exact fin T hS hO (fun c => c) rfl (r := [.slice none 0 0, .int .i64 ((gi l_ (wR (x_137 + 1))).At), .int .i64 r154.2]) kr (fun χ' hM hC => ⟨([], (gi l_ (wR (x_137 + 1))).At, r154.2), hm, none, 0, rfl, RS.empty _ _ _⟩)
   replace hm := hm.2 hb
   refine wskip ?_
   refine region ?_
   refine oP T hS 2 ⟨[(0, Sl a1 l_ c1), (2, Sl a2 lo c2), (3, Sl a3 hi c3), (4, I end_), (13, Pt 14 0), (14, Sl a134 out_133 c135), (43, I (if (lN hi) < (lN lo) then (lN hi) else (lN lo))), (44, I x_137), (82, Sl a134 out_133 c135), (83, I r154.1)], [(14, (60, [I ((gi l_ (wR ((lN l_) - 1))).Line), I ((gi l_ (wR ((lN l_) - 1))).At), Z ((gi l_ (wR ((lN l_) - 1))).Text)]))]⟩ fun a hS => ?_
   refine op1 (lit (E := 3) (col := 0) (T := tI) (vals := [.int .i64 r154.1]) (ys := [r154.1]) T hS kr kr kr kr (by exact ⟨rfl, trivial⟩) rfl kr kr kr kr ?_)
   intro b157 a w158 χ159 hE h160 hN hS
   clear hN
   replace hO := hO.mv hE rfl rfl
   replace h130 := h130.mv hE rfl
   replace h131 := h131.mv hE rfl
   replace h132 := h132.mv hE rfl
   replace h136 := h136.mv hE rfl rfl
   replace h160 := h160.rs0
   obtain ⟨hq, hm⟩ := hm
   obtain ⟨news, hN⟩ := h160.src
   refine op1 (append (E := 3) (T := tI) (col := 1011) (xs := out_133) T hS kr kr kr kr h136 hN kr kr kr kr hq ?_)
   intro a164 c165 a w161 χ162 hE h163 hS
   clear hq hN
   clear h136
   replace hO := hO.mv hE rfl rfl
   replace h130 := h130.mv hE rfl
   replace h131 := h131.mv hE rfl
   replace h132 := h132.mv hE rfl
   replace h160 := h160.mv hE rfl
   refine eP T hS ⟨[(0, Sl a1 l_ c1), (2, Sl a2 lo c2), (3, Sl a3 hi c3), (4, I end_), (13, Pt 14 0), (14, Sl a164 (out_133 ++ [r154.1]) c165), (43, I (if (lN hi) < (lN lo) then (lN hi) else (lN lo))), (44, I x_137)], [(14, (60, [I ((gi l_ (wR ((lN l_) - 1))).Line), I ((gi l_ (wR ((lN l_) - 1))).At), Z ((gi l_ (wR ((lN l_) - 1))).Text)]))]⟩ fun a hS => ?_
   refine region (eP T hS ⟨[(0, Sl a1 l_ c1), (2, Sl a2 lo c2), (3, Sl a3 hi c3), (4, I end_), (13, Pt 14 0), (14, Sl a164 (out_133 ++ [r154.1]) c165), (43, I (if (lN hi) < (lN lo) then (lN hi) else (lN lo))), (44, I (wR (x_137 + 1)))], [(14, (60, [I ((gi l_ (wR ((lN l_) - 1))).Line), I ((gi l_ (wR ((lN l_) - 1))).At), Z ((gi l_ (wR ((lN l_) - 1))).Text)]))]⟩ fun a hS => ?_)
   exact ⟨⟨out_133 ++ [r154.1], wR (x_137 + 1)⟩, ⟨ρ, _, a164, c165, hm.1, hS.sl _, hO, h130, h131, h132, h163⟩, hm.2⟩
  replace hm := hm.2 hb
  refine wexit (by rfl) ?_
  exact ⟨ρ, _, out_133, a134, c135, hm, hS.sl _, hO, h130, h136⟩
 rintro a w171 ⟨ρ, χ170, out_117, a118, c119, hm, hS, hO, h116, h120⟩
 unfold VC71_J1 at hm
 refine wseq (rP T hS ⟨[(0, Sl a1 l_ c1), (4, I end_), (14, Sl a118 out_117 c119), (92, B (decide ((lN l_) > (wR ((lN out_117) + 1)))))], []⟩ fun a hS => ?_)
 refine wcond hS (b := decide ((lN l_) > (wR ((lN out_117) + 1)))) kr (fun hb => ?_) (fun hb => ?_)
 ·replace hm := hm.1 hb
  refine drawnSX [] mixed hS ?_
  intro w121 χ122 hS hE hD hH
  replace hO := hO.mv hE rfl rfl
  replace h116 := h116.mv hE rfl
  replace h120 := h120.mv hE rfl rfl
  refine tk T [0, 1, 7, 2, 3] [] hS hH #[true, true, true, true, false, false, false, true, false, false] 5 ⟨[(10, V (.slice none 0 0)), (93, Sl a1 l_ c1), (96, I (wR ((lN out_117) + 1)))], []⟩ fun a hS => ?_
  obtain ⟨hq, hm⟩ := hm
  refine dindex (e := 60) (k := .i64) T 4 hS kr kr kr (by rfl) kr hH kr kr h116 kr kr hq.1 hq.2 ?_
  intro A123 a h124 hS
  have h124b := h124.here
  refine dfieldA (off := 1) (fsz := 1) (ft := 3) (TF := tI) (y := (gi l_ (wR ((lN out_117) + 1))).At) 5 T hS kr kr kr (by rfl) kr hH kr h124 kr kr kr (fun cs h => Token_Token_f1 h) ?_
  intro A125 a h126 hbl hS
  have h126b := h124b
  rw [← hbl] at h126b
  clear hbl
  refine dload1 T 6 hS kr kr kr (by rfl) kr hH kr h126 h126b rfl kr ?_
  intro v127 a hv hS
  cases hv
  refine tk T [8, 9] [] hS hH #[true, true, true, true, true, true, true, true, true, true] 0 ⟨[(10, V (.slice none 0 0)), (11, I ((gi l_ (wR ((lN out_117) + 1))).At)), (12, I 6)], []⟩ fun a hS => ?_
  refine drawnDone kr ?_
  clear hD hH
  replace hS := hS.sl ⟨[(10, V (.slice none 0 0)), (11, I ((gi l_ (wR ((lN out_117) + 1))).At)), (12, I 6)], []⟩
  refine wret ?_
  exact fin T hS hO (fun c => c) rfl (r := [.slice none 0 0, .int .i64 ((gi l_ (wR ((lN out_117) + 1))).At), .int .i64 6]) kr (fun χ' hM hC => ⟨([], (gi l_ (wR ((lN out_117) + 1))).At, 6), hm, none, 0, rfl, RS.empty _ _ _⟩)
 replace hm := hm.2 hb
 refine wskip ?_
 refine rP T hS ⟨[(10, Sl a118 out_117 c119), (11, I end_), (12, I 0)], []⟩ fun a hS => ?_
 refine wret ?_
 obtain ⟨χ128, hE, hF⟩ := h120.freeze (by decide)
 replace hS := hS.ev hE (xone_box kr)
 replace hO := hO.mv hE rfl rfl
 have h129 := hF; clear hE hF
 exact fin T hS hO (fun c => c) rfl (r := [.slice a118 out_117.length c119, .int .i64 end_, .int .i64 0]) kr (fun χ' hM hC => ⟨(out_117, end_, 0), hm, a118, c119, rfl, h129.m0 hM⟩)
theorem C71 (k87 : S87) (v : ∀ (l_ : List Token_Token) (word : List UInt8) (lo : List Int) (hi : List Int) (end_ : Int), preNT l_ word lo hi end_ → VC71 l_ word lo hi end_ (fun r => r = objtext_Numbers l_ word lo hi end_)) : S71 := by
 intro w χ l_ word lo hi end_ a1 c1 a2 c2 a3 c3   hp h1 h2 h3
 refine (W71 k87 w χ l_ word lo hi end_ a1 c1 a2 c2 a3 c3   _ (v l_ word lo hi end_ hp) h1 h2 h3).mono ?_
 rintro _ _ _ _ ⟨r, rfl, h⟩
 exact h
theorem W41 (w0 : World) (χ0 : Nat → Nat) (s1 : List Api_Pick) (s2 : List Api_Pick) (a1 : Option Addr) (c1 : Nat) (a2 : Option Addr) (c2 : Nat) (Q : Bool → Prop) (hm : VC41 s1 s2 Q) (h1 : RS tApi_Pick w0 χ0 a1 s1 c1) (h2 : RS tApi_Pick w0 χ0 a2 s2 c2) :
  Ret Tryz.prog 41 #[.slice a1 s1.length c1, .slice a2 s2.length c2] xnone w0 χ0 (fun w χ' v => ∃ r, Q r ∧ v = .bool r) := by
 unfold VC41 at hm
 replace hm := hm (h1.sm kr)
 replace hm := hm (h2.sm kr)
 refine enter Tryz.func41 rfl (vals := [.slice a1 s1.length c1, .slice a2 s2.length c2]) kr ?_
 intro ρ a hS hO hM
 replace h1 := h1.m0 hM
 replace h2 := h2.m0 hM
 clear hM
 refine rP T hS ⟨[(0, Sl a1 s1 c1), (1, Sl a2 s2 c2)], []⟩ fun a hS => ?_
 refine wseq (rP T hS ⟨[(0, Sl a1 s1 c1), (1, Sl a2 s2 c2), (10, B ((lN s1) != (lN s2)))], []⟩ fun a hS => ?_)
 refine wcond hS (b := ((lN s1) != (lN s2))) kr (fun hb => ?_) (fun hb => ?_)
 ·replace hm := hm.1 hb
  refine rP T hS ⟨[(4, B false)], []⟩ fun a hS => ?_
  refine wret ?_
  exact fin T hS hO (fun c => c) rfl (r := [.bool false]) kr (fun χ' hM hC => ⟨false, hm, rfl⟩)
 replace hm := hm.2 hb
 refine wskip ?_
 refine wcut (fun a w => ∃ (ρ : Nat → Nat) (χ : Nat → Nat), VC41_J1 Q ∧ St Tryz.f41.ntmps ⟨[], []⟩ ρ a w χ ∧ Old w0 χ0 w χ) ?_ ?_
 ·refine rP T hS ⟨[(0, Sl a1 s1 c1), (1, Sl a2 s2 c2), (12, I (lN s1)), (13, I 0)], []⟩ fun a hS => ?_
  refine wblock ?_
  obtain ⟨I1, μ1, hm0, hm⟩ := hm
  refine wloop (σ := Int) (fun s a w => ∃ (ρ : Nat → Nat) (χ : Nat → Nat), I1 s ∧ St Tryz.f41.ntmps ⟨[(0, Sl a1 s1 c1), (1, Sl a2 s2 c2), (12, I (lN s1)), (13, I s)], []⟩ ρ a w χ ∧ Old w0 χ0 w χ ∧ RS tApi_Pick w χ a1 s1 c1 ∧ RS tApi_Pick w χ a2 s2 c2) (fun s => μ1 s) (0) ?_ ?_
  ·exact ⟨ρ, _, hm0, hS.sl _, hO, h1, h2⟩
  rintro x_103 a w113 ⟨ρ, χ112, hI, hS, hO, h101, h102⟩
  replace hm := hm x_103 hI
  clear hI hm0
  refine rP T hS ⟨[(0, Sl a1 s1 c1), (1, Sl a2 s2 c2), (12, I (lN s1)), (13, I x_103), (14, B (decide (x_103 < (lN s1))))], []⟩ fun a hS => ?_
  refine wseq ?_
  refine wcond hS (b := decide (x_103 < (lN s1))) kr (fun hb => ?_) (fun hb => ?_)
  ·replace hm := hm.1 hb
   refine wskip (wseq ?_)
   refine wblock ?_
   refine rP T hS ⟨[(0, Sl a1 s1 c1), (1, Sl a2 s2 c2), (5, I x_103), (12, I (lN s1)), (13, I x_103)], []⟩ fun a hS => ?_
   refine drawnSX [] mixed hS ?_
   intro w104 χ105 hS hE hD hH
   replace hO := hO.mv hE rfl rfl
   replace h101 := h101.mv hE rfl
   replace h102 := h102.mv hE rfl
   refine tk T [0, 1, 4, 5] [] hS hH #[true, true, false, false, true, true, false, false, false] 5 ⟨[(0, Sl a1 s1 c1), (1, Sl a2 s2 c2), (12, I (lN s1)), (13, I x_103), (16, Sl a1 s1 c1), (17, I x_103), (20, Sl a2 s2 c2), (21, I x_103)], []⟩ fun a hS => ?_
   obtain ⟨hq, hm⟩ := hm
   refine dindex (e := 44) (k := .i64) T 2 hS kr kr kr (by rfl) kr hH kr kr h101 kr kr hq.1 hq.2 ?_
   intro A106 a h107 hS
   have h107b := h107.here
   refine dloadA T 3 hS kr kr kr (by rfl) kr hH kr h107 h107b kr kr ?_
   intro v108 a hv hS
   subst hv
   obtain ⟨hq, hm⟩ := hm
   refine dindex (e := 44) (k := .i64) T 6 hS kr kr kr (by rfl) kr hH kr kr h102 kr kr hq.1 hq.2 ?_
   intro A109 a h110 hS
   have h110b := h110.here
   refine dloadA T 7 hS kr kr kr (by rfl) kr hH kr h110 h110b kr kr ?_
   intro v111 a hv hS
   subst hv
   refine dstructEq (op := .neq) (xs := [.int .i64 ((gi s1 x_103).Oper), .int .i64 ((gi s1 x_103).Result)]) (ys := [.int .i64 ((gi s2 x_103).Oper), .int .i64 ((gi s2 x_103).Result)]) (r := (((gi s1 x_103).Oper) == ((gi s2 x_103).Oper) && (((gi s1 x_103).Result) == ((gi s2 x_103).Result) && true))) (b := (!(((gi s1 x_103).Oper) == ((gi s2 x_103).Oper) && (((gi s1 x_103).Result) == ((gi s2 x_103).Result) && true)))) 8 T hS kr kr kr (by rfl) kr hH kr kr kr kr kr kr ?_
   intro a hS
   refine drawnDone kr ?_
   clear hD hH
   replace hS := hS.sl ⟨[(0, Sl a1 s1 c1), (1, Sl a2 s2 c2), (12, I (lN s1)), (13, I x_103), (24, B (!(((gi s1 x_103).Oper) == ((gi s2 x_103).Oper) && (((gi s1 x_103).Result) == ((gi s2 x_103).Result) && true))))], []⟩
   refine wcond hS (b := (!(((gi s1 x_103).Oper) == ((gi s2 x_103).Oper) && (((gi s1 x_103).Result) == ((gi s2 x_103).Result) && true)))) kr (fun hb => ?_) (fun hb => ?_)
   ·replace hm := hm.1 hb
    refine rP T hS ⟨[(4, B false)], []⟩ fun a hS => ?_
    refine wret ?_
    exact fin T hS hO (fun c => c) rfl (r := [.bool false]) kr (fun χ' hM hC => ⟨false, hm, rfl⟩)
   replace hm := hm.2 hb
   refine wskip ?_
   refine region (eP T hS ⟨[(0, Sl a1 s1 c1), (1, Sl a2 s2 c2), (12, I (lN s1)), (13, I (wR (x_103 + 1)))], []⟩ fun a hS => ?_)
   exact ⟨wR (x_103 + 1), ⟨ρ, _, hm.1, hS.sl _, hO, h101, h102⟩, hm.2⟩
  replace hm := hm.2 hb
  refine wexit (by rfl) ?_
  exact ⟨ρ, _, hm, hS.sl _, hO⟩
 rintro a w115 ⟨ρ, χ114, hm, hS, hO⟩
 unfold VC41_J1 at hm
 refine rP T hS ⟨[(4, B true)], []⟩ fun a hS => ?_
 refine wret ?_
 exact fin T hS hO (fun c => c) rfl (r := [.bool true]) kr (fun χ' hM hC => ⟨true, hm, rfl⟩)
theorem C41 (v : ∀ (s1 : List Api_Pick) (s2 : List Api_Pick), VC41 s1 s2 (fun r => r = slices_Equal_api_Pick_api_Pick s1 s2)) : S41 := by
 intro w χ s1 s2 a1 c1 a2 c2   h1 h2
 refine (W41 w χ s1 s2 a1 c1 a2 c2   _ (v s1 s2) h1 h2).mono ?_
 rintro _ _ _ _ ⟨r, rfl, h⟩
 exact h
theorem W29 (w0 : World) (χ0 : Nat → Nat) (a_ : List Api_Pick) (b_ : List Api_Pick) (a1 : Option Addr) (c1 : Nat) (a2 : Option Addr) (c2 : Nat) (Q : Bool → Prop) (hm : VC29 a_ b_ Q) (h1 : RS tApi_Pick w0 χ0 a1 a_ c1) (h2 : RS tApi_Pick w0 χ0 a2 b_ c2) :
  Ret Tryz.prog 29 #[.slice a1 a_.length c1, .slice a2 b_.length c2] xnone w0 χ0 (fun w χ' v => ∃ r, Q r ∧ v = .bool r) := by
 unfold VC29 at hm
 replace hm := hm (h1.sm kr)
 replace hm := hm (h2.sm kr)
 refine enter Tryz.func29 rfl (vals := [.slice a1 a_.length c1, .slice a2 b_.length c2]) kr ?_
 intro ρ a hS hO hM
 replace h1 := h1.m0 hM
 replace h2 := h2.m0 hM
 clear hM
 refine rP T hS ⟨[(0, Sl a1 a_ c1), (1, Sl a2 b_ c2)], []⟩ fun a hS => ?_
 refine wseq (rP T hS ⟨[(0, Sl a1 a_ c1), (1, Sl a2 b_ c2), (10, B ((lN a_) != (lN b_)))], []⟩ fun a hS => ?_)
 refine wcond hS (b := ((lN a_) != (lN b_))) kr (fun hb => ?_) (fun hb => ?_)
 ·replace hm := hm.1 hb
  refine rP T hS ⟨[(4, B false)], []⟩ fun a hS => ?_
  refine wret ?_
  exact fin T hS hO (fun c => c) rfl (r := [.bool false]) kr (fun χ' hM hC => ⟨false, hm, rfl⟩)
 replace hm := hm.2 hb
 refine wskip ?_
 refine wcut (fun a w => ∃ (ρ : Nat → Nat) (χ : Nat → Nat), VC29_J1 Q ∧ St Tryz.f29.ntmps ⟨[], []⟩ ρ a w χ ∧ Old w0 χ0 w χ) ?_ ?_
 ·refine rP T hS ⟨[(0, Sl a1 a_ c1), (1, Sl a2 b_ c2), (5, I 0)], []⟩ fun a hS => ?_
  refine wblock ?_
  obtain ⟨I1, μ1, hm0, hm⟩ := hm
  refine wloop (σ := Int) (fun s a w => ∃ (ρ : Nat → Nat) (χ : Nat → Nat), I1 s ∧ St Tryz.f29.ntmps ⟨[(0, Sl a1 a_ c1), (1, Sl a2 b_ c2), (5, I s)], []⟩ ρ a w χ ∧ Old w0 χ0 w χ ∧ RS tApi_Pick w χ a1 a_ c1 ∧ RS tApi_Pick w χ a2 b_ c2) (fun s => μ1 s) (0) ?_ ?_
  ·exact ⟨ρ, _, hm0, hS.sl _, hO, h1, h2⟩
  rintro i_103 a w113 ⟨ρ, χ112, hI, hS, hO, h101, h102⟩
  replace hm := hm i_103 hI
  clear hI hm0
  refine wseq (rP T hS ⟨[(0, Sl a1 a_ c1), (1, Sl a2 b_ c2), (5, I i_103), (14, B (decide (i_103 < (lN a_))))], []⟩ fun a hS => ?_)
  refine wcond hS (b := decide (i_103 < (lN a_))) kr (fun hb => ?_) (fun hb => ?_)
  ·replace hm := hm.1 hb
   refine wskip (wseq ?_)
   refine wblock ?_
   refine drawnSX [] mixed hS ?_
   intro w104 χ105 hS hE hD hH
   replace hO := hO.mv hE rfl rfl
   replace h101 := h101.mv hE rfl
   replace h102 := h102.mv hE rfl
   refine tk T [0, 1, 4, 5] [] hS hH #[true, true, false, false, true, true, false, false, false] 5 ⟨[(0, Sl a1 a_ c1), (1, Sl a2 b_ c2), (5, I i_103), (17, Sl a1 a_ c1), (18, I i_103), (21, Sl a2 b_ c2), (22, I i_103)], []⟩ fun a hS => ?_
   obtain ⟨hq, hm⟩ := hm
   refine dindex (e := 44) (k := .i64) T 2 hS kr kr kr (by rfl) kr hH kr kr h101 kr kr hq.1 hq.2 ?_
   intro A106 a h107 hS
   have h107b := h107.here
   refine dloadA T 3 hS kr kr kr (by rfl) kr hH kr h107 h107b kr kr ?_
   intro v108 a hv hS
   subst hv
   obtain ⟨hq, hm⟩ := hm
   refine dindex (e := 44) (k := .i64) T 6 hS kr kr kr (by rfl) kr hH kr kr h102 kr kr hq.1 hq.2 ?_
   intro A109 a h110 hS
   have h110b := h110.here
   refine dloadA T 7 hS kr kr kr (by rfl) kr hH kr h110 h110b kr kr ?_
   intro v111 a hv hS
   subst hv
   refine dstructEq (op := .neq) (xs := [.int .i64 ((gi a_ i_103).Oper), .int .i64 ((gi a_ i_103).Result)]) (ys := [.int .i64 ((gi b_ i_103).Oper), .int .i64 ((gi b_ i_103).Result)]) (r := (((gi a_ i_103).Oper) == ((gi b_ i_103).Oper) && (((gi a_ i_103).Result) == ((gi b_ i_103).Result) && true))) (b := (!(((gi a_ i_103).Oper) == ((gi b_ i_103).Oper) && (((gi a_ i_103).Result) == ((gi b_ i_103).Result) && true)))) 8 T hS kr kr kr (by rfl) kr hH kr kr kr kr kr kr ?_
   intro a hS
   refine drawnDone kr ?_
   clear hD hH
   replace hS := hS.sl ⟨[(0, Sl a1 a_ c1), (1, Sl a2 b_ c2), (5, I i_103), (25, B (!(((gi a_ i_103).Oper) == ((gi b_ i_103).Oper) && (((gi a_ i_103).Result) == ((gi b_ i_103).Result) && true))))], []⟩
   refine wcond hS (b := (!(((gi a_ i_103).Oper) == ((gi b_ i_103).Oper) && (((gi a_ i_103).Result) == ((gi b_ i_103).Result) && true)))) kr (fun hb => ?_) (fun hb => ?_)
   ·replace hm := hm.1 hb
    refine rP T hS ⟨[(4, B false)], []⟩ fun a hS => ?_
    refine wret ?_
    exact fin T hS hO (fun c => c) rfl (r := [.bool false]) kr (fun χ' hM hC => ⟨false, hm, rfl⟩)
   replace hm := hm.2 hb
   refine wskip ?_
   refine region (eP T hS ⟨[(0, Sl a1 a_ c1), (1, Sl a2 b_ c2), (5, I (wR (i_103 + 1)))], []⟩ fun a hS => ?_)
   exact ⟨wR (i_103 + 1), ⟨ρ, _, hm.1, hS.sl _, hO, h101, h102⟩, hm.2⟩
  replace hm := hm.2 hb
  refine wexit (by rfl) ?_
  exact ⟨ρ, _, hm, hS.sl _, hO⟩
 rintro a w115 ⟨ρ, χ114, hm, hS, hO⟩
 unfold VC29_J1 at hm
 refine rP T hS ⟨[(4, B true)], []⟩ fun a hS => ?_
 refine wret ?_
 exact fin T hS hO (fun c => c) rfl (r := [.bool true]) kr (fun χ' hM hC => ⟨true, hm, rfl⟩)
theorem C29 (v : ∀ (a_ : List Api_Pick) (b_ : List Api_Pick), VC29 a_ b_ (fun r => r = ref28_Same a_ b_)) : S29 := by
 intro w χ a_ b_ a1 c1 a2 c2   h1 h2
 refine (W29 w χ a_ b_ a1 c1 a2 c2   _ (v a_ b_) h1 h2).mono ?_
 rintro _ _ _ _ ⟨r, rfl, h⟩
 exact h
theorem W43 (w0 : World) (χ0 : Nat → Nat) (Q : (List (List UInt8)) → Prop) (hm : VC43 Q) :
  Ret Tryz.prog 43 #[] xnone w0 χ0 (fun w χ' v => ∃ r, Q r ∧ ∃ (ra1 : Option Addr) (rc1 : Nat), v = .slice ra1 r.length rc1 ∧ RS tStr w χ' ra1 r rc1) := by
 unfold VC43 at hm
 refine enter Tryz.func43 rfl (vals := []) kr ?_
 intro ρ a hS hO hM
 clear hM
 refine rP T hS ⟨[], []⟩ fun a hS => ?_
 refine regO ?_
 refine op1 (lit (E := 9) (col := 0) (T := tStr) (vals := [.string (bs ([109, 97, 108, 102, 111, 114, 109, 101, 100] : List UInt8)), .string (bs ([116, 111, 111, 108, 97, 114, 103, 101] : List UInt8)), .string (bs ([98, 117, 100, 103, 101, 116, 111, 117, 116] : List UInt8)), .string (bs ([108, 105, 110, 101, 97, 114, 105, 122, 97, 98, 108, 101] : List UInt8)), .string (bs ([110, 111, 116, 108, 105, 110, 101, 97, 114, 105, 122, 97, 98, 108, 101] : List UInt8))]) (ys := [([109, 97, 108, 102, 111, 114, 109, 101, 100] : List UInt8), ([116, 111, 111, 108, 97, 114, 103, 101] : List UInt8), ([98, 117, 100, 103, 101, 116, 111, 117, 116] : List UInt8), ([108, 105, 110, 101, 97, 114, 105, 122, 97, 98, 108, 101] : List UInt8), ([110, 111, 116, 108, 105, 110, 101, 97, 114, 105, 122, 97, 98, 108, 101] : List UInt8)]) T hS kr kr kr kr (by exact ⟨rfl, rfl, rfl, rfl, rfl, trivial⟩) rfl kr kr kr kr ?_)
 intro b101 a w102 χ103 hE h104 hN hS
 clear hN
 replace hO := hO.mv hE rfl rfl
 replace h104 := h104.rs0
 refine eP T hS ⟨[(0, Sl (some ⟨b101, 0, none⟩) [([109, 97, 108, 102, 111, 114, 109, 101, 100] : List UInt8), ([116, 111, 111, 108, 97, 114, 103, 101] : List UInt8), ([98, 117, 100, 103, 101, 116, 111, 117, 116] : List UInt8), ([108, 105, 110, 101, 97, 114, 105, 122, 97, 98, 108, 101] : List UInt8), ([110, 111, 116, 108, 105, 110, 101, 97, 114, 105, 122, 97, 98, 108, 101] : List UInt8)] 5)], []⟩ fun a hS => ?_
 refine wret ?_
 exact fin T hS hO (fun c => c) rfl (r := [.slice (some ⟨b101, 0, none⟩) [([109, 97, 108, 102, 111, 114, 109, 101, 100] : List UInt8), ([116, 111, 111, 108, 97, 114, 103, 101] : List UInt8), ([98, 117, 100, 103, 101, 116, 111, 117, 116] : List UInt8), ([108, 105, 110, 101, 97, 114, 105, 122, 97, 98, 108, 101] : List UInt8), ([110, 111, 116, 108, 105, 110, 101, 97, 114, 105, 122, 97, 98, 108, 101] : List UInt8)].length 5]) kr (fun χ' hM hC => ⟨[([109, 97, 108, 102, 111, 114, 109, 101, 100] : List UInt8), ([116, 111, 111, 108, 97, 114, 103, 101] : List UInt8), ([98, 117, 100, 103, 101, 116, 111, 117, 116] : List UInt8), ([108, 105, 110, 101, 97, 114, 105, 122, 97, 98, 108, 101] : List UInt8), ([110, 111, 116, 108, 105, 110, 101, 97, 114, 105, 122, 97, 98, 108, 101] : List UInt8)], hm, (some ⟨b101, 0, none⟩), 5, rfl, h104.m0 hM⟩)
theorem C43 (v : ∀ (_ : Unit), VC43 (fun r => r = verdict_words)) : S43 := by
 intro w χ     
 refine (W43 w χ     _ (v ())).mono ?_
 rintro _ _ _ _ ⟨r, rfl, h⟩
 exact h
theorem W15 (k43 : S43) (w0 : World) (χ0 : Nat → Nat) (kind : Int) (Q : (List UInt8) → Prop) (hm : VC15 kind Q) :
  Ret Tryz.prog 15 #[.int .i64 kind] xnone w0 χ0 (fun w χ' v => ∃ r, Q r ∧ v = .string (bs r)) := by
 unfold VC15 at hm
 refine enter Tryz.func15 rfl (vals := [.int .i64 kind]) kr ?_
 intro ρ a hS hO hM
 clear hM
 refine rP T hS ⟨[(0, I kind)], []⟩ fun a hS => ?_
 refine wseq ?_
 refine rP T hS ⟨[(0, I kind), (8, B ((decide (kind < 1)) || (decide (kind > 5))))], []⟩ (sp := [5]) fun a hS => ?_
 refine wcond hS (b := ((decide (kind < 1)) || (decide (kind > 5)))) kr (fun hb => ?_) (fun hb => ?_)
 ·replace hm := hm.1 hb
  refine rP T hS ⟨[(2, Z ([] : List UInt8))], []⟩ fun a hS => ?_
  refine wret ?_
  exact fin T hS hO (fun c => c) rfl (r := [.string (bs ([] : List UInt8))]) kr (fun χ' hM hC => ⟨([] : List UInt8), hm, rfl⟩)
 replace hm := hm.2 hb
 refine wskip ?_
 refine regO ?_
 refine op1 (call hS kr kr hb43 kr (fun _ _ => rfl) (k43 _ _) ?_)
 intro v101 a w102 χ103 hE hp hS
 replace hO := hO.mv hE rfl rfl
 obtain ⟨a105, c106, hp, h107⟩ := hp
 obtain ⟨r104, hr⟩ : ∃ r, verdict_words = r := ⟨_, rfl⟩
 replace hm := hm r104 hr
 rw [hr] at hp h107
 clear hr
 subst hp
 replace hm := hm (h107.sm kr)
 refine oP T hS 2 ⟨[(9, Sl a105 r104 c106), (11, I (wR (kind - 1)))], []⟩ fun a hS => ?_
 obtain ⟨hq, hm⟩ := hm
 refine op1 (index (e := 9) (k := .i64) T hS kr kr kr kr h107 kr kr hq.1 hq.2 ?_)
 intro A108 a h109 hS
 refine op1 (load1 T hS kr kr kr h109 rfl kr ?_)
 intro v110 a hv hS
 cases hv
 refine eP T hS ⟨[(2, Z (gi r104 (wR (kind - 1))))], []⟩ fun a hS => ?_
 refine wret ?_
 exact fin T hS hO (fun c => c) rfl (r := [.string (bs (gi r104 (wR (kind - 1))))]) kr (fun χ' hM hC => ⟨(gi r104 (wR (kind - 1))), hm, rfl⟩)
theorem C15 (k43 : S43) (v : ∀ (kind : Int), VC15 kind (fun r => r = verdict_Word kind)) : S15 := by
 intro w χ kind    
 refine (W15 k43 w χ kind    _ (v kind)).mono ?_
 rintro _ _ _ _ ⟨r, rfl, h⟩
 exact h
theorem W16 (w0 : World) (χ0 : Nat → Nat) (kind : Int) (Q : (List UInt8) → Prop) (hm : VC16 kind Q) :
  Ret Tryz.prog 16 #[.int .i64 kind] xnone w0 χ0 (fun w χ' v => ∃ r, Q r ∧ v = .string (bs r)) := by
 unfold VC16 at hm
 refine enter Tryz.func16 rfl (vals := [.int .i64 kind]) kr ?_
 intro ρ a hS hO hM
 clear hM
 refine rP T hS ⟨[(0, I kind)], []⟩ fun a hS => ?_
 refine regO ?_
 refine op1 (lit (E := 9) (col := 0) (T := tStr) (vals := [.string (bs ([] : List UInt8)), .string (bs ([109, 97, 108, 102, 111, 114, 109, 101, 100] : List UInt8)), .string (bs ([116, 111, 111, 108, 97, 114, 103, 101] : List UInt8)), .string (bs ([98, 117, 100, 103, 101, 116, 111, 117, 116] : List UInt8)), .string (bs ([108, 105, 110, 101, 97, 114, 105, 122, 97, 98, 108, 101] : List UInt8)), .string (bs ([110, 111, 116, 108, 105, 110, 101, 97, 114, 105, 122, 97, 98, 108, 101] : List UInt8))]) (ys := [([] : List UInt8), ([109, 97, 108, 102, 111, 114, 109, 101, 100] : List UInt8), ([116, 111, 111, 108, 97, 114, 103, 101] : List UInt8), ([98, 117, 100, 103, 101, 116, 111, 117, 116] : List UInt8), ([108, 105, 110, 101, 97, 114, 105, 122, 97, 98, 108, 101] : List UInt8), ([110, 111, 116, 108, 105, 110, 101, 97, 114, 105, 122, 97, 98, 108, 101] : List UInt8)]) T hS kr kr kr kr (by exact ⟨rfl, rfl, rfl, rfl, rfl, rfl, trivial⟩) rfl kr kr kr kr ?_)
 intro b101 a w102 χ103 hE h104 hN hS
 clear hN
 replace hO := hO.mv hE rfl rfl
 replace h104 := h104.rs0
 refine eP T hS ⟨[(0, I kind), (3, Sl (some ⟨b101, 0, none⟩) [([] : List UInt8), ([109, 97, 108, 102, 111, 114, 109, 101, 100] : List UInt8), ([116, 111, 111, 108, 97, 114, 103, 101] : List UInt8), ([98, 117, 100, 103, 101, 116, 111, 117, 116] : List UInt8), ([108, 105, 110, 101, 97, 114, 105, 122, 97, 98, 108, 101] : List UInt8), ([110, 111, 116, 108, 105, 110, 101, 97, 114, 105, 122, 97, 98, 108, 101] : List UInt8)] 6)], []⟩ fun a hS => ?_
 refine wseq ?_
 refine rP T hS ⟨[(0, I kind), (3, Sl (some ⟨b101, 0, none⟩) [([] : List UInt8), ([109, 97, 108, 102, 111, 114, 109, 101, 100] : List UInt8), ([116, 111, 111, 108, 97, 114, 103, 101] : List UInt8), ([98, 117, 100, 103, 101, 116, 111, 117, 116] : List UInt8), ([108, 105, 110, 101, 97, 114, 105, 122, 97, 98, 108, 101] : List UInt8), ([110, 111, 116, 108, 105, 110, 101, 97, 114, 105, 122, 97, 98, 108, 101] : List UInt8)] 6), (10, B ((decide (kind < 1)) || (decide (kind > 5))))], []⟩ (sp := [7]) fun a hS => ?_
 refine wcond hS (b := ((decide (kind < 1)) || (decide (kind > 5)))) kr (fun hb => ?_) (fun hb => ?_)
 ·replace hm := hm.1 hb
  refine rP T hS ⟨[(2, Z ([] : List UInt8))], []⟩ fun a hS => ?_
  refine wret ?_
  exact fin T hS hO (fun c => c) rfl (r := [.string (bs ([] : List UInt8))]) kr (fun χ' hM hC => ⟨([] : List UInt8), hm, rfl⟩)
 replace hm := hm.2 hb
 refine wskip ?_
 refine regO ?_
 refine oP T hS 2 ⟨[(11, Sl (some ⟨b101, 0, none⟩) [([] : List UInt8), ([109, 97, 108, 102, 111, 114, 109, 101, 100] : List UInt8), ([116, 111, 111, 108, 97, 114, 103, 101] : List UInt8), ([98, 117, 100, 103, 101, 116, 111, 117, 116] : List UInt8), ([108, 105, 110, 101, 97, 114, 105, 122, 97, 98, 108, 101] : List UInt8), ([110, 111, 116, 108, 105, 110, 101, 97, 114, 105, 122, 97, 98, 108, 101] : List UInt8)] 6), (12, I kind)], []⟩ fun a hS => ?_
 obtain ⟨hq, hm⟩ := hm
 refine op1 (index (e := 9) (k := .i64) T hS kr kr kr kr h104 kr kr hq.1 hq.2 ?_)
 intro A105 a h106 hS
 refine op1 (load1 T hS kr kr kr h106 rfl kr ?_)
 intro v107 a hv hS
 cases hv
 refine eP T hS ⟨[(2, Z (gi [([] : List UInt8), ([109, 97, 108, 102, 111, 114, 109, 101, 100] : List UInt8), ([116, 111, 111, 108, 97, 114, 103, 101] : List UInt8), ([98, 117, 100, 103, 101, 116, 111, 117, 116] : List UInt8), ([108, 105, 110, 101, 97, 114, 105, 122, 97, 98, 108, 101] : List UInt8), ([110, 111, 116, 108, 105, 110, 101, 97, 114, 105, 122, 97, 98, 108, 101] : List UInt8)] kind))], []⟩ fun a hS => ?_
 refine wret ?_
 exact fin T hS hO (fun c => c) rfl (r := [.string (bs (gi [([] : List UInt8), ([109, 97, 108, 102, 111, 114, 109, 101, 100] : List UInt8), ([116, 111, 111, 108, 97, 114, 103, 101] : List UInt8), ([98, 117, 100, 103, 101, 116, 111, 117, 116] : List UInt8), ([108, 105, 110, 101, 97, 114, 105, 122, 97, 98, 108, 101] : List UInt8), ([110, 111, 116, 108, 105, 110, 101, 97, 114, 105, 122, 97, 98, 108, 101] : List UInt8)] kind))]) kr (fun χ' hM hC => ⟨(gi [([] : List UInt8), ([109, 97, 108, 102, 111, 114, 109, 101, 100] : List UInt8), ([116, 111, 111, 108, 97, 114, 103, 101] : List UInt8), ([98, 117, 100, 103, 101, 116, 111, 117, 116] : List UInt8), ([108, 105, 110, 101, 97, 114, 105, 122, 97, 98, 108, 101] : List UInt8), ([110, 111, 116, 108, 105, 110, 101, 97, 114, 105, 122, 97, 98, 108, 101] : List UInt8)] kind), hm, rfl⟩)
theorem C16 (v : ∀ (kind : Int), VC16 kind (fun r => r = ref39_Word kind)) : S16 := by
 intro w χ kind    
 refine (W16 w χ kind    _ (v kind)).mono ?_
 rintro _ _ _ _ ⟨r, rfl, h⟩
 exact h
theorem W62 (w0 : World) (χ0 : Nat → Nat) (p_ : Api_Pick) (cap1 : List (Int × Int)) (r1 : Nat) (m1 : Nat) (b1 : Nat) (i1 : Nat) (Q : Bool × (List (Int × Int)) → Prop) (hm : VC62 p_ cap1 Q) (h1 : OM kI tI false w0 χ0 m1 r1 cap1) (hc1 : Cell w0 χ0 b1 i1 111 [.map (some r1)]) (hA : Apart [i1, m1]) :
  Ret Tryz.prog 62 #[.agg #[.int .i64 p_.Oper, .int .i64 p_.Result], .pointer (some ⟨b1, 0, none⟩)] (pR [i1, m1]) w0 χ0 (fun w χ' v => ∃ r, Q r ∧ v = .bool r.1 ∧ Cell w χ' b1 i1 111 [.map (some r1)] ∧ OM kI tI false w χ' m1 r1 r.2) := by
 unfold VC62 at hm
 refine enterR Tryz.func62 rfl (f0of [(i1, 901), (m1, 2001)]) (fun id => (bif Nat.beq id 901 then b1 else 0)) (args := [V (.agg #[.int .i64 p_.Oper, .int .i64 p_.Result]), Pt 901 0]) (bxs := [(901, (111, [V (.map (some r1))]))]) kr rfl (BoxesOK.cons kr (hc1.map (f0of_at 0 hA.1 rfl)) BoxesOK.nil) (f0of_0 (fun q hq => (hA.2 q.1 (List.mem_map.2 ⟨q, hq, rfl⟩)).1)) ?_
 intro a hS hO hM
 have hP : Pin [(901, b1)] (fun id => (bif Nat.beq id 901 then b1 else 0)) := by intro q hq; simp at hq; rcases hq with rfl <;> rfl
 generalize (fun id => (bif Nat.beq id 901 then b1 else 0)) = ρ at hS hP
 clear hc1
 replace h1 := h1.map (f := f0of [(i1, 901), (m1, 2001)]) (f0of_at 1 hA.1 rfl) hM
 clear hM
 refine rM T hS ⟨[(1, Pt 901 0), (2, Pt 3 0)], [(3, (44, [I p_.Oper, I p_.Result])), (901, (111, [V (.map (some r1))]))]⟩ fun ρ a w105 χ106 hS hE hr => ?_
 replace hO := hO.mv hE rfl rfl
 replace h1 := h1.mv hE rfl rfl
 replace hP := hP.mv hr kr
 clear hE hr
 refine regO ?_
 refine oP T hS 3 ⟨[(1, Pt 901 0), (2, Pt 3 0), (4, V (.map (some r1))), (6, I p_.Oper)], [(3, (44, [I p_.Oper, I p_.Result])), (901, (111, [V (.map (some r1))]))]⟩ fun a hS => ?_
 refine op1 (mlook kI tI false (zv := .int .i64 0) (z := 0) p_.Oper hS kr kr kr kr Tryz.underlying111 Tryz.underlying3 kr rfl h1 ?_)
 intro v101 a hv hS
 replace hv : tI.R _ _ [v101] _ := hv
 cases hv
 refine oP T hS 1 ⟨[(1, Pt 901 0), (2, Pt 3 0), (4, V (.map (some r1))), (6, I p_.Oper), (8, I (wR (((mget cap1 p_.Oper).getD 0) + 1)))], [(3, (44, [I p_.Oper, I p_.Result])), (901, (111, [V (.map (some r1))]))]⟩ fun a hS => ?_
 refine op1 (mset kI tI false (v := I (wR (((mget cap1 p_.Oper).getD 0) + 1))) (u := wR (((mget cap1 p_.Oper).getD 0) + 1)) p_.Oper hS kr kr kr kr Tryz.underlying111 Tryz.underlying3 kr h1 rfl ?_)
 intro a w102 hE h103 hS
 clear h1
 replace hO := hO.mv hE rfl rfl
 refine doneK ?_
 refine regO ?_
 refine oP T hS 3 ⟨[(2, Pt 3 0), (9, V (.map (some r1))), (11, I p_.Oper)], [(3, (44, [I p_.Oper, I p_.Result])), (901, (111, [V (.map (some r1))]))]⟩ fun a hS => ?_
 refine op1 (mlook kI tI false (zv := .int .i64 0) (z := 0) p_.Oper hS kr kr kr kr Tryz.underlying111 Tryz.underlying3 kr rfl h103 ?_)
 intro v104 a hv hS
 replace hv : tI.R _ _ [v104] _ := hv
 cases hv
 refine eP T hS ⟨[(3, B (((((decide (((mget (mput cap1 p_.Oper (wR (((mget cap1 p_.Oper).getD 0) + 1))) p_.Oper).getD 0) > 1)) || (decide (p_.Oper < 0))) || (decide (p_.Oper ≥ 64))) || (decide (p_.Result < 0))) || (decide (p_.Result > 1000000))))], [(901, (111, [V (.map (some r1))]))]⟩ (sp := [14, 19, 24, 29]) fun a hS => ?_
 refine wret ?_
 exact finR T hS hO (fun c h => f0of_zero kr h) (fun c h => f0of_else (l := [(i1, 901), (m1, 2001)]) h) (f1of [(i1, 901), (m1, 2001)]) rfl (r := [.bool (((((decide (((mget (mput cap1 p_.Oper (wR (((mget cap1 p_.Oper).getD 0) + 1))) p_.Oper).getD 0) > 1)) || (decide (p_.Oper < 0))) || (decide (p_.Oper ≥ 64))) || (decide (p_.Result < 0))) || (decide (p_.Result > 1000000)))]) kr (fun χ' hM hC => ⟨((((((decide (((mget (mput cap1 p_.Oper (wR (((mget cap1 p_.Oper).getD 0) + 1))) p_.Oper).getD 0) > 1)) || (decide (p_.Oper < 0))) || (decide (p_.Oper ≥ 64))) || (decide (p_.Result < 0))) || (decide (p_.Result > 1000000))), mput cap1 p_.Oper (wR (((mget cap1 p_.Oper).getD 0) + 1))), hm, rfl, ((hS.cell (id := 901) (t := 111) (cs := [V (.map (some r1))]) kr).out (f := (f1of [(i1, 901), (m1, 2001)])) hC kr kr (hP.at 0 rfl)), (h103.out (f := (f1of [(i1, 901), (m1, 2001)])) hM hC kr kr)⟩)
theorem C62 (v : ∀ (p_ : Api_Pick) (cap1 : List (Int × Int)), prePk p_ cap1 → VC62 p_ cap1 (fun r => r = verdict_picked_1 p_ cap1)) : S62 := by
 intro w χ p_ cap1 r1 m1  b1 i1 hp h1 hc1 hA
 refine (W62 w χ p_ cap1 r1 m1  b1 i1 _ (v p_ cap1 hp) h1 hc1 hA).mono ?_
 rintro _ _ _ _ ⟨r, rfl, h⟩
 exact h
end Go.Proofs.YtkgcdoeldilhaaaGreatDoor
