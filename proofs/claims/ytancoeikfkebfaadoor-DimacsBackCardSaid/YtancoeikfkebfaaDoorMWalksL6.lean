/- Walks: each function returns what its condition asks. Condition: the contracts of its callees, handed in. -/
import Derived.Test.YtancoeikfkebfaaDoorMWalksS
set_option linter.all false
namespace Go.Proofs.YtancoeikfkebfaaDoor
open Go Go.Sv
set_option maxHeartbeats 1000000
/-- slices.Equal[[]int,int] -/
theorem W37 (w0 : World) (χ0 : Nat → Nat) (s1 : List Int) (s2 : List Int) (a1 : Option Addr) (c1 : Nat) (a2 : Option Addr) (c2 : Nat) (Q : Bool → Prop) (hm : VC37 s1 s2 Q) (h1 : RS tI w0 χ0 a1 s1 c1) (h2 : RS tI w0 χ0 a2 s2 c2) :
  Ret Tryd.prog 37 #[.slice a1 s1.length c1, .slice a2 s2.length c2] xnone w0 χ0 (fun w χ' v => ∃ r, Q r ∧ v = .bool r) := by
 unfold VC37 at hm
 replace hm := hm (h1.sm kr)
 replace hm := hm (h2.sm kr)
 refine enter Tryd.func37 rfl (vals := [.slice a1 s1.length c1, .slice a2 s2.length c2]) kr ?_
 intro ρ a hS hO hM
 replace h1 := h1.m0 hM
 replace h2 := h2.m0 hM
 clear hM
 refine rP T hS ⟨[(0, Sl a1 s1 c1), (1, Sl a2 s2 c2)], []⟩ fun a hS => ?_
 refine wseq ?_
 refine rP T hS ⟨[(0, Sl a1 s1 c1), (1, Sl a2 s2 c2), (10, B (((s1.length : Nat) : Int) != ((s2.length : Nat) : Int)))], []⟩ fun a hS => ?_
 refine wcond hS (b := (((s1.length : Nat) : Int) != ((s2.length : Nat) : Int))) kr (fun hb => ?_) (fun hb => ?_)
 ·replace hm := hm.1 hb
  refine rP T hS ⟨[(4, B false)], []⟩ fun a hS => ?_
  refine wret ?_
  exact fin T hS hO (fun c => c) rfl (r := [.bool false]) kr (fun χ' hM hC => ⟨false, hm, rfl⟩)
 ·replace hm := hm.2 hb
  refine wskip ?_
  refine wcut (fun a w => ∃ (ρ : Nat → Nat) (χ : Nat → Nat), VC37_J1 Q ∧ St Tryd.f37.ntmps ⟨[], []⟩ ρ a w χ ∧ Old w0 χ0 w χ) ?_ ?_
  ·refine rP T hS ⟨[(0, Sl a1 s1 c1), (1, Sl a2 s2 c2), (12, I ((s1.length : Nat) : Int)), (13, I 0)], []⟩ fun a hS => ?_
   refine wblock ?_
   obtain ⟨I1, μ1, hm0, hm⟩ := hm
   refine wloop (σ := Int) (fun s a w => ∃ (ρ : Nat → Nat) (χ : Nat → Nat), I1 s ∧ St Tryd.f37.ntmps ⟨[(0, Sl a1 s1 c1), (1, Sl a2 s2 c2), (12, I ((s1.length : Nat) : Int)), (13, I s)], []⟩ ρ a w χ ∧ Old w0 χ0 w χ ∧ RS tI w χ a1 s1 c1 ∧ RS tI w χ a2 s2 c2) (fun s => μ1 s) (0) ?_ ?_
   ·exact ⟨ρ, _, hm0, hS.sl _, hO, h1, h2⟩
   ·rintro x_103 a w113 ⟨ρ, χ112, hI, hS, hO, h101, h102⟩
    replace hm := hm x_103 hI
    clear hI hm0
    refine rP T hS ⟨[(0, Sl a1 s1 c1), (1, Sl a2 s2 c2), (12, I ((s1.length : Nat) : Int)), (13, I x_103), (14, B (decide (x_103 < ((s1.length : Nat) : Int))))], []⟩ fun a hS => ?_
    refine wseq ?_
    refine wcond hS (b := decide (x_103 < ((s1.length : Nat) : Int))) kr (fun hb => ?_) (fun hb => ?_)
    ·replace hm := hm.1 hb
     refine wskip ?_
     refine wseq ?_
     refine wblock ?_
     refine rP T hS ⟨[(0, Sl a1 s1 c1), (1, Sl a2 s2 c2), (5, I x_103), (12, I ((s1.length : Nat) : Int)), (13, I x_103)], []⟩ fun a hS => ?_
     refine drawnSX [] mixed hS ?_
     intro w104 χ105 hS hE hD hH
     replace hO := hO.mv hE rfl rfl
     replace h101 := h101.mv hE rfl
     replace h102 := h102.mv hE rfl
     clear hE
     refine tk T [0, 1, 4, 5] [] hS hH #[true, true, false, false, true, true, false, false, false] 5 ⟨[(0, Sl a1 s1 c1), (1, Sl a2 s2 c2), (12, I ((s1.length : Nat) : Int)), (13, I x_103), (16, Sl a1 s1 c1), (17, I x_103), (20, Sl a2 s2 c2), (21, I x_103)], []⟩ fun a hS => ?_
     obtain ⟨hq, hm⟩ := hm
     refine dindex (e := 3) (k := .i64) T 2 hS kr kr kr (by rfl) kr hH kr kr h101 kr kr hq.1 hq.2 ?_
     intro A106 a h107 hS
     clear hq
     have h107b := h107.here
     refine dload1 T 3 hS kr kr kr (by rfl) kr hH kr h107 h107b rfl kr ?_
     intro v108 a hv hS
     cases hv
     obtain ⟨hq, hm⟩ := hm
     refine dindex (e := 3) (k := .i64) T 6 hS kr kr kr (by rfl) kr hH kr kr h102 kr kr hq.1 hq.2 ?_
     intro A109 a h110 hS
     clear hq
     have h110b := h110.here
     refine dload1 T 7 hS kr kr kr (by rfl) kr hH kr h110 h110b rfl kr ?_
     intro v111 a hv hS
     cases hv
     refine tk T [8] [] hS hH #[true, true, true, true, true, true, true, true, true] 0 ⟨[(0, Sl a1 s1 c1), (1, Sl a2 s2 c2), (12, I ((s1.length : Nat) : Int)), (13, I x_103), (24, B ((gi s1 x_103) != (gi s2 x_103)))], []⟩ fun a hS => ?_
     refine drawnDone kr ?_
     clear hD hH
     replace hS := hS.sl ⟨[(0, Sl a1 s1 c1), (1, Sl a2 s2 c2), (12, I ((s1.length : Nat) : Int)), (13, I x_103), (24, B ((gi s1 x_103) != (gi s2 x_103)))], []⟩
     refine wcond hS (b := ((gi s1 x_103) != (gi s2 x_103))) kr (fun hb => ?_) (fun hb => ?_)
     ·replace hm := hm.1 hb
      refine rP T hS ⟨[(4, B false)], []⟩ fun a hS => ?_
      refine wret ?_
      exact fin T hS hO (fun c => c) rfl (r := [.bool false]) kr (fun χ' hM hC => ⟨false, hm, rfl⟩)
     ·replace hm := hm.2 hb
      refine wskip ?_
      refine region (eP T hS ⟨[(0, Sl a1 s1 c1), (1, Sl a2 s2 c2), (12, I ((s1.length : Nat) : Int)), (13, I (IntKind.i64.wrap (x_103 + 1)))], []⟩ fun a hS => ?_)
      exact ⟨IntKind.i64.wrap (x_103 + 1), ⟨ρ, _, hm.1, hS.sl _, hO, h101, h102⟩, hm.2⟩
    ·replace hm := hm.2 hb
     refine wexit (by rfl) ?_
     exact ⟨ρ, _, hm, hS.sl _, hO⟩
  ·rintro a w115 ⟨ρ, χ114, hm, hS, hO⟩
   unfold VC37_J1 at hm
   refine rP T hS ⟨[(4, B true)], []⟩ fun a hS => ?_
   refine wret ?_
   exact fin T hS hO (fun c => c) rfl (r := [.bool true]) kr (fun χ' hM hC => ⟨true, hm, rfl⟩)
theorem C37 (v : ∀ (s1 : List Int) (s2 : List Int), VC37 s1 s2 (fun r => r = slices_Equal_int_int s1 s2)) : S37 := by
 intro w χ s1 s2 a1 c1 a2 c2   h1 h2
 refine (W37 w χ s1 s2 a1 c1 a2 c2   _ (v s1 s2) h1 h2).mono ?_
 rintro _ _ _ _ ⟨r, rfl, h⟩
 exact h
/-- replevin/cnf.Same$1 -/
theorem W36 (k37 : S37) (w0 : World) (χ0 : Nat → Nat) (x_ : List Int) (y_ : List Int) (a1 : Option Addr) (c1 : Nat) (a2 : Option Addr) (c2 : Nat) (Q : Bool → Prop) (hm : VC36 x_ y_ Q) (h1 : RS tI w0 χ0 a1 x_ c1) (h2 : RS tI w0 χ0 a2 y_ c2) :
  Ret Tryd.prog 36 #[.slice a1 x_.length c1, .slice a2 y_.length c2] xnone w0 χ0 (fun w χ' v => ∃ r, Q r ∧ v = .bool r) := by
 unfold VC36 at hm
 replace hm := hm (h1.sm kr)
 replace hm := hm (h2.sm kr)
 refine enter Tryd.func36 rfl (vals := [.slice a1 x_.length c1, .slice a2 y_.length c2]) kr ?_
 intro ρ a hS hO hM
 replace h1 := h1.m0 hM
 replace h2 := h2.m0 hM
 clear hM
 refine rP T hS ⟨[(0, Sl a1 x_ c1), (1, Sl a2 y_ c2)], []⟩ fun a hS => ?_
 refine regO ?_
 refine oP T hS 2 ⟨[(5, Sl a1 x_ c1), (6, Sl a2 y_ c2)], []⟩ fun a hS => ?_
 refine op1 (call hS kr kr hb37 kr (fun _ _ => rfl) (k37 _ _ x_ y_ a1 c1 a2 c2 h1 h2) ?_)
 intro v101 a w102 χ103 hE hp hS
 replace hO := hO.mv hE rfl rfl
 replace h1 := h1.mv hE rfl
 replace h2 := h2.mv hE rfl
 clear hE
 obtain ⟨r104, hr⟩ : ∃ r, slices_Equal_int_int x_ y_ = r := ⟨_, rfl⟩
 replace hm := hm r104 hr
 rw [hr] at hp
 clear hr
 subst hp
 refine eP T hS ⟨[(4, B r104)], []⟩ fun a hS => ?_
 refine wret ?_
 exact fin T hS hO (fun c => c) rfl (r := [.bool r104]) kr (fun χ' hM hC => ⟨r104, hm, rfl⟩)
theorem C36 (k37 : S37) (v : ∀ (x_ : List Int) (y_ : List Int), VC36 x_ y_ (fun r => r = cnf_Same_1 x_ y_)) : S36 := by
 intro w χ x_ y_ a1 c1 a2 c2   h1 h2
 refine (W36 k37 w χ x_ y_ a1 c1 a2 c2   _ (v x_ y_) h1 h2).mono ?_
 rintro _ _ _ _ ⟨r, rfl, h⟩
 exact h
/-- slices.EqualFunc[[][]int,[][]int,[]int,[]int] -/
theorem W35_36 (k36 : S36) (w0 : World) (χ0 : Nat → Nat) (s1 : List (List Int)) (s2 : List (List Int)) (a1 : Option Addr) (c1 : Nat) (a2 : Option Addr) (c2 : Nat) (Q : Bool → Prop) (hm : VC35_36 s1 s2 Q) (h1 : RS (tSlice tI) w0 χ0 a1 s1 c1) (h2 : RS (tSlice tI) w0 χ0 a2 s2 c2) (hA : Apart []) :
  Ret Tryd.prog 35 #[.slice a1 s1.length c1, .slice a2 s2.length c2, .func (.func 36) #[] #[]] (pR []) w0 χ0 (fun w χ' v => ∃ r, Q r ∧ v = .bool r) := by
 unfold VC35_36 at hm
 replace hm := hm (h1.sm kr)
 replace hm := hm (h2.sm kr)
 refine enterR Tryd.func35 rfl (f0of []) (fun id => 0) (args := [Sl a1 s1 c1, Sl a2 s2 c2, .f (.func 36) [] []]) (bxs := []) kr rfl BoxesOK.nil (f0of_0 (fun q hq => (hA.2 q.1 (List.mem_map.2 ⟨q, hq, rfl⟩)).1)) ?_
 intro a hS hO hM
 generalize (fun id : Nat => 0) = ρ at hS
 replace h1 := h1.m0 hM
 replace h2 := h2.m0 hM
 clear hM
 refine rP T hS ⟨[(0, Sl a1 s1 c1), (1, Sl a2 s2 c2), (2, .f (.func 36) [] [])], []⟩ fun a hS => ?_
 refine wseq ?_
 refine rP T hS ⟨[(0, Sl a1 s1 c1), (1, Sl a2 s2 c2), (2, .f (.func 36) [] []), (14, B (((s1.length : Nat) : Int) != ((s2.length : Nat) : Int)))], []⟩ fun a hS => ?_
 refine wcond hS (b := (((s1.length : Nat) : Int) != ((s2.length : Nat) : Int))) kr (fun hb => ?_) (fun hb => ?_)
 ·replace hm := hm.1 hb
  refine rP T hS ⟨[(6, B false)], []⟩ fun a hS => ?_
  refine wret ?_
  exact finR T hS hO (fun c h => f0of_zero kr h) (fun c h => f0of_else (l := []) h) (f1of []) rfl (r := [.bool false]) kr (fun χ' hM hC => ⟨false, hm, rfl⟩)
 ·replace hm := hm.2 hb
  refine wskip ?_
  refine wcut (fun a w => ∃ (ρ : Nat → Nat) (χ : Nat → Nat), VC35_36_J1 Q ∧ St Tryd.f35.ntmps ⟨[], []⟩ ρ a w χ ∧ OldR (f0of []) w0 χ0 w χ) ?_ ?_
  ·refine rP T hS ⟨[(1, Sl a2 s2 c2), (2, .f (.func 36) [] []), (15, Sl a1 s1 c1), (16, I ((s1.length : Nat) : Int)), (17, I 0)], []⟩ fun a hS => ?_
   refine wblock ?_
   obtain ⟨I1, μ1, hm0, hm⟩ := hm
   refine wloop (σ := Int) (fun s a w => ∃ (ρ : Nat → Nat) (χ : Nat → Nat), I1 s ∧ St Tryd.f35.ntmps ⟨[(1, Sl a2 s2 c2), (2, .f (.func 36) [] []), (15, Sl a1 s1 c1), (16, I ((s1.length : Nat) : Int)), (17, I s)], []⟩ ρ a w χ ∧ OldR (f0of []) w0 χ0 w χ ∧ RS (tSlice tI) w χ a2 s2 c2 ∧ RS (tSlice tI) w χ a1 s1 c1) (fun s => μ1 s) (0) ?_ ?_
   ·exact ⟨ρ, _, hm0, hS.sl _, hO, h2, h1⟩
   ·rintro x_103 a w121 ⟨ρ, χ120, hI, hS, hO, h101, h102⟩
    replace hm := hm x_103 hI
    clear hI hm0
    refine rP T hS ⟨[(1, Sl a2 s2 c2), (2, .f (.func 36) [] []), (15, Sl a1 s1 c1), (16, I ((s1.length : Nat) : Int)), (17, I x_103), (18, B (decide (x_103 < ((s1.length : Nat) : Int))))], []⟩ fun a hS => ?_
    refine wseq ?_
    refine wcond hS (b := decide (x_103 < ((s1.length : Nat) : Int))) kr (fun hb => ?_) (fun hb => ?_)
    ·replace hm := hm.1 hb
     refine wskip ?_
     refine wseq ?_
     refine wblock ?_
     refine regO ?_
     refine oP T hS 1 ⟨[(1, Sl a2 s2 c2), (2, .f (.func 36) [] []), (15, Sl a1 s1 c1), (16, I ((s1.length : Nat) : Int)), (17, I x_103), (19, I x_103)], []⟩ fun a hS => ?_
     obtain ⟨hq, hm⟩ := hm
     refine op1 (index (e := 49) (k := .i64) T hS kr kr kr kr h102 kr kr hq.1 hq.2 ?_)
     intro A104 a h105 hS
     clear hq
     refine op1 (load1 T hS kr kr kr h105 rfl kr ?_)
     intro v106 a hv hS
     obtain ⟨a107, c108, hv, h109⟩ := hv
     cases hv
     replace hm := hm (h109.sm kr)
     refine eP T hS ⟨[(1, Sl a2 s2 c2), (2, .f (.func 36) [] []), (7, I x_103), (8, Sl a107 (gi s1 x_103) c108), (15, Sl a1 s1 c1), (16, I ((s1.length : Nat) : Int)), (17, I x_103)], []⟩ fun a hS => ?_
     refine regO ?_
     refine oP T hS 2 ⟨[(1, Sl a2 s2 c2), (2, .f (.func 36) [] []), (8, Sl a107 (gi s1 x_103) c108), (15, Sl a1 s1 c1), (16, I ((s1.length : Nat) : Int)), (17, I x_103), (22, Sl a2 s2 c2), (23, I x_103)], []⟩ fun a hS => ?_
     obtain ⟨hq, hm⟩ := hm
     refine op1 (index (e := 49) (k := .i64) T hS kr kr kr kr h101 kr kr hq.1 hq.2 ?_)
     intro A110 a h111 hS
     clear hq
     refine op1 (load1 T hS kr kr kr h111 rfl kr ?_)
     intro v112 a hv hS
     obtain ⟨a113, c114, hv, h115⟩ := hv
     cases hv
     replace hm := hm (h115.sm kr)
     refine eP T hS ⟨[(1, Sl a2 s2 c2), (2, .f (.func 36) [] []), (8, Sl a107 (gi s1 x_103) c108), (9, Sl a113 (gi s2 x_103) c114), (15, Sl a1 s1 c1), (16, I ((s1.length : Nat) : Int)), (17, I x_103)], []⟩ fun a hS => ?_
     refine regO ?_
     refine oP T hS 3 ⟨[(1, Sl a2 s2 c2), (2, .f (.func 36) [] []), (15, Sl a1 s1 c1), (16, I ((s1.length : Nat) : Int)), (17, I x_103), (26, .f (.func 36) [] []), (27, Sl a107 (gi s1 x_103) c108), (28, Sl a113 (gi s2 x_103) c114)], []⟩ fun a hS => ?_
     refine op1 (callC (fi := []) (cp := []) hS kr kr hb36 kr kr (fun _ _ => rfl) (k36 _ _ (gi s1 x_103) (gi s2 x_103) a107 c108 a113 c114 h109 h115) ?_)
     intro v116 a w117 χ118 hE hp hS
     replace hO := hO.mv hE rfl rfl
     replace h101 := h101.mv hE rfl
     replace h102 := h102.mv hE rfl
     replace h109 := h109.mv hE rfl
     replace h115 := h115.mv hE rfl
     clear hE
     obtain ⟨r119, hr⟩ : ∃ r, cnf_Same_1 (gi s1 x_103) (gi s2 x_103) = r := ⟨_, rfl⟩
     replace hm := hm r119 hr
     rw [hr] at hp
     clear hr
     subst hp
     refine eP T hS ⟨[(1, Sl a2 s2 c2), (2, .f (.func 36) [] []), (15, Sl a1 s1 c1), (16, I ((s1.length : Nat) : Int)), (17, I x_103), (30, B (!r119))], []⟩ fun a hS => ?_
     refine wcond hS (b := (!r119)) kr (fun hb => ?_) (fun hb => ?_)
     ·replace hm := hm.1 hb
      refine rP T hS ⟨[(6, B false)], []⟩ fun a hS => ?_
      refine wret ?_
      exact finR T hS hO (fun c h => f0of_zero kr h) (fun c h => f0of_else (l := []) h) (f1of []) rfl (r := [.bool false]) kr (fun χ' hM hC => ⟨false, hm, rfl⟩)
     ·replace hm := hm.2 hb
      refine wskip ?_
      refine region (eP T hS ⟨[(1, Sl a2 s2 c2), (2, .f (.func 36) [] []), (15, Sl a1 s1 c1), (16, I ((s1.length : Nat) : Int)), (17, I (IntKind.i64.wrap (x_103 + 1)))], []⟩ fun a hS => ?_)
      exact ⟨IntKind.i64.wrap (x_103 + 1), ⟨ρ, _, hm.1, hS.sl _, hO, h101, h102⟩, hm.2⟩
    ·replace hm := hm.2 hb
     refine wexit (by rfl) ?_
     exact ⟨ρ, _, hm, hS.sl _, hO⟩
  ·rintro a w123 ⟨ρ, χ122, hm, hS, hO⟩
   unfold VC35_36_J1 at hm
   refine rP T hS ⟨[(6, B true)], []⟩ fun a hS => ?_
   refine wret ?_
   exact finR T hS hO (fun c h => f0of_zero kr h) (fun c h => f0of_else (l := []) h) (f1of []) rfl (r := [.bool true]) kr (fun χ' hM hC => ⟨true, hm, rfl⟩)
theorem C35_36 (k36 : S36) (v : ∀ (s1 : List (List Int)) (s2 : List (List Int)), VC35_36 s1 s2 (fun r => r = slices_EqualFunc_int_int_int_int_cnf_Same_1 s1 s2)) : S35_36 := by
 intro w χ s1 s2 a1 c1 a2 c2   h1 h2 hA
 refine (W35_36 k36 w χ s1 s2 a1 c1 a2 c2   _ (v s1 s2) h1 h2 hA).mono ?_
 rintro _ _ _ _ ⟨r, rfl, h⟩
 exact h
/-- replevin/cnf.Same -/
theorem W18 (k35_36 : S35_36) (w0 : World) (χ0 : Nat → Nat) (a_ : Api_Formula) (b_ : Api_Formula) (a1 : Option Addr) (c1 : Nat) (a2 : Option Addr) (c2 : Nat) (Q : Bool → Prop) (hm : VC18 a_ b_ Q) (h1 : RS (tSlice tI) w0 χ0 a1 a_.Clauses c1) (h2 : RS (tSlice tI) w0 χ0 a2 b_.Clauses c2) :
  Ret Tryd.prog 18 #[.agg #[.int .i64 a_.Vars, .slice a1 a_.Clauses.length c1], .agg #[.int .i64 b_.Vars, .slice a2 b_.Clauses.length c2]] xnone w0 χ0 (fun w χ' v => ∃ r, Q r ∧ v = .bool r) := by
 unfold VC18 at hm
 replace hm := hm (h1.sm kr)
 replace hm := hm (h2.sm kr)
 refine enter Tryd.func18 rfl (vals := [.agg #[.int .i64 a_.Vars, .slice a1 a_.Clauses.length c1], .agg #[.int .i64 b_.Vars, .slice a2 b_.Clauses.length c2]]) kr ?_
 intro ρ a hS hO hM
 replace h1 := h1.m0 hM
 replace h2 := h2.m0 hM
 clear hM
 refine rM T hS ⟨[(2, Pt 3 0), (3, Pt 4 0)], [(3, (25, [I a_.Vars, Sl a1 a_.Clauses c1])), (4, (25, [I b_.Vars, Sl a2 b_.Clauses c2]))]⟩ fun ρ a w105 χ106 hS hE hr => ?_
 replace hO := hO.mv hE rfl rfl
 replace h1 := h1.mv hE rfl
 replace h2 := h2.mv hE rfl
 clear hE hr
 refine regO ?_
 refine oP T hS 6 ⟨[(2, Pt 3 0), (3, Pt 4 0), (10, B (a_.Vars == b_.Vars))], [(3, (25, [I a_.Vars, Sl a1 a_.Clauses c1])), (4, (25, [I b_.Vars, Sl a2 b_.Clauses c2]))]⟩ fun a hS => ?_
 rcases Bool.eq_false_or_eq_true (a_.Vars == b_.Vars) with hb | hb
 ·replace hS := hS.lit (t := 10) kr hb
  replace hm := hm.1 hb
  refine oP T hS 4 ⟨[(10, B true), (12, Sl a1 a_.Clauses c1), (14, Sl a2 b_.Clauses c2)], []⟩ fun a hS => ?_
  refine op1 (callR hS kr kr hb35 kr (k35_36 _ _ a_.Clauses b_.Clauses a1 c1 a2 c2 h1 h2 ⟨by decide, by decide⟩) ?_)
  intro v101 a w102 χ103 hE hp hS
  replace hO := hO.mv hE rfl rfl
  replace h1 := h1.mv hE rfl
  replace h2 := h2.mv hE rfl
  clear hE
  obtain ⟨r104, hr⟩ : ∃ r, slices_EqualFunc_int_int_int_int_cnf_Same_1 a_.Clauses b_.Clauses = r := ⟨_, rfl⟩
  replace hm := hm r104 hr
  rw [hr] at hp
  clear hr
  subst hp
  refine eP T hS ⟨[(4, B r104)], []⟩ fun a hS => ?_
  refine wret ?_
  exact fin T hS hO (fun c => c) rfl (r := [.bool r104]) kr (fun χ' hM hC => ⟨r104, hm, rfl⟩)
 ·replace hS := hS.lit (t := 10) kr hb
  replace hm := hm.2 hb
  refine eP T hS ⟨[(4, B false)], []⟩ fun a hS => ?_
  refine wret ?_
  exact fin T hS hO (fun c => c) rfl (r := [.bool false]) kr (fun χ' hM hC => ⟨false, hm, rfl⟩)
theorem C18 (k35_36 : S35_36) (v : ∀ (a_ : Api_Formula) (b_ : Api_Formula), VC18 a_ b_ (fun r => r = cnf_Same a_ b_)) : S18 := by
 intro w χ a_ b_ a1 c1 a2 c2   h1 h2
 refine (W18 k35_36 w χ a_ b_ a1 c1 a2 c2   _ (v a_ b_) h1 h2).mono ?_
 rintro _ _ _ _ ⟨r, rfl, h⟩
 exact h
/-- replevin/replevinlaw06.DimacsBack -/
theorem W6 (k11 : S11) (k12 : S12) (k17 : S17) (k18 : S18) (k7 : S7) (k8 : S8) (w0 : World) (χ0 : Nat → Nat) (f_ : Api_Formula) (s_ : List UInt8) (a1 : Option Addr) (c1 : Nat) (Q : Bool → Prop) (hm : VC6 f_ s_ Q) (h1 : RS (tSlice tI) w0 χ0 a1 f_.Clauses c1) (hAmb : Amb w0 χ0) :
  Ret Tryd.prog 6 #[.agg #[.int .i64 f_.Vars, .slice a1 f_.Clauses.length c1], .string (bs s_)] xnone w0 χ0 (fun w χ' v => ∃ r, Q r ∧ v = .bool r) := by
 unfold VC6 at hm
 replace hm := hm (h1.sm kr)
 refine enter Tryd.func6 rfl (vals := [.agg #[.int .i64 f_.Vars, .slice a1 f_.Clauses.length c1], .string (bs s_)]) kr ?_
 intro ρ a hS hO hM
 replace h1 := h1.m0 hM
 replace hAmb := hAmb.m0 hM
 clear hM
 refine rM T hS ⟨[(1, Z s_), (2, Pt 3 0)], [(3, (25, [I f_.Vars, Sl a1 f_.Clauses c1]))]⟩ fun ρ a w166 χ167 hS hE hr => ?_
 replace hO := hO.mv hE rfl rfl
 replace h1 := h1.mv hE rfl
 replace hAmb := hAmb.mv hE rfl
 clear hE hr
 refine wseq ?_
 refine regO ?_
 refine oP T hS 1 ⟨[(1, Z s_), (2, Pt 3 0), (20, V (.agg #[.int .i64 f_.Vars, .slice a1 f_.Clauses.length c1]))], [(3, (25, [I f_.Vars, Sl a1 f_.Clauses c1]))]⟩ fun a hS => ?_
 refine op1 (call hS kr kr hb11 kr (fun _ _ => rfl) (k11 _ _ f_ a1 c1 h1) ?_)
 intro v101 a w102 χ103 hE hp hS
 replace hO := hO.mv hE rfl rfl
 replace h1 := h1.mv hE rfl
 replace hAmb := hAmb.mv hE rfl
 clear hE
 obtain ⟨r104, hr⟩ : ∃ r, law04_Few f_ = r := ⟨_, rfl⟩
 replace hm := hm r104 hr
 rw [hr] at hp
 clear hr
 subst hp
 refine eP T hS ⟨[(1, Z s_), (2, Pt 3 0), (27, B ((!r104) || (decide (((s_.length : Nat) : Int) > 3000))))], [(3, (25, [I f_.Vars, Sl a1 f_.Clauses c1]))]⟩ (sp := [23]) fun a hS => ?_
 refine wcond hS (b := ((!r104) || (decide (((s_.length : Nat) : Int) > 3000)))) kr (fun hb => ?_) (fun hb => ?_)
 ·replace hm := hm.1 hb
  refine regO ?_
  refine op1 (call hS kr kr hb7 kr (fun _ _ => rfl) (k7 _ _ hAmb) ?_)
  intro v105 a w106 χ107 hE hp hS
  replace hO := hO.mv hE rfl rfl
  replace h1 := h1.mv hE rfl
  replace hAmb := hAmb.mv hE rfl
  clear hE
  obtain ⟨r108, hr⟩ : ∃ r, law06_awake = r := ⟨_, rfl⟩
  replace hm := hm r108 hr
  rw [hr] at hp
  clear hr
  subst hp
  refine eP T hS ⟨[(4, B r108)], []⟩ fun a hS => ?_
  refine wret ?_
  exact fin T hS hO (fun c => c) rfl (r := [.bool r108]) kr (fun χ' hM hC => ⟨r108, hm, rfl⟩)
 ·replace hm := hm.2 hb
  refine wskip ?_
  refine regO ?_
  refine oP T hS 1 ⟨[(1, Z s_), (2, Pt 3 0), (30, V (.agg #[.int .i64 f_.Vars, .slice a1 f_.Clauses.length c1]))], [(3, (25, [I f_.Vars, Sl a1 f_.Clauses c1]))]⟩ fun a hS => ?_
  refine op1 (call hS kr kr hb12 kr (fun _ _ => rfl) (k12 _ _ f_ a1 c1 h1 hAmb) ?_)
  intro v109 a w110 χ111 hE hp hS
  replace hO := hO.mv hE rfl rfl
  replace h1 := h1.mv hE rfl
  replace hAmb := hAmb.mv hE rfl
  clear hE
  obtain ⟨r112, hr⟩ : ∃ r, dimacs_Print f_ = r := ⟨_, rfl⟩
  replace hm := hm r112 hr
  rw [hr] at hp
  clear hr
  subst hp
  refine eP T hS ⟨[(1, Z s_), (2, Pt 3 0), (5, Z r112.1), (6, I r112.2)], [(3, (25, [I f_.Vars, Sl a1 f_.Clauses c1]))]⟩ fun a hS => ?_
  refine wseq ?_
  refine regO ?_
  refine oP T hS 1 ⟨[(1, Z s_), (2, Pt 3 0), (5, Z r112.1), (6, I r112.2), (35, V (.agg #[.int .i64 f_.Vars, .slice a1 f_.Clauses.length c1]))], [(3, (25, [I f_.Vars, Sl a1 f_.Clauses c1]))]⟩ fun a hS => ?_
  refine op1 (call hS kr kr hb17 kr (fun _ _ => rfl) (k17 _ _ f_ a1 c1 h1) ?_)
  intro v113 a w114 χ115 hE hp hS
  replace hO := hO.mv hE rfl rfl
  replace h1 := h1.mv hE rfl
  replace hAmb := hAmb.mv hE rfl
  clear hE
  obtain ⟨r116, hr⟩ : ∃ r, cnf_Check f_ = r := ⟨_, rfl⟩
  replace hm := hm r116 hr
  rw [hr] at hp
  clear hr
  subst hp
  refine eP T hS ⟨[(1, Z s_), (2, Pt 3 0), (5, Z r112.1), (6, I r112.2), (8, I r116.2)], [(3, (25, [I f_.Vars, Sl a1 f_.Clauses c1]))]⟩ fun a hS => ?_
  refine rP T hS ⟨[(1, Z s_), (2, Pt 3 0), (5, Z r112.1), (6, I r112.2), (41, B (r116.2 != r112.2))], [(3, (25, [I f_.Vars, Sl a1 f_.Clauses c1]))]⟩ fun a hS => ?_
  refine wcond hS (b := (r116.2 != r112.2)) kr (fun hb => ?_) (fun hb => ?_)
  ·replace hm := hm.1 hb
   refine rP T hS ⟨[(4, B false)], []⟩ fun a hS => ?_
   refine wret ?_
   exact fin T hS hO (fun c => c) rfl (r := [.bool false]) kr (fun χ' hM hC => ⟨false, hm, rfl⟩)
  ·replace hm := hm.2 hb
   refine wskip ?_
   refine wcut (fun a w => ∃ (ρ : Nat → Nat) (χ : Nat → Nat), VC6_J1 s_ Q ∧ St Tryd.f6.ntmps ⟨[(1, Z s_)], []⟩ ρ a w χ ∧ Old w0 χ0 w χ ∧ Amb w χ) ?_ ?_
   ·refine rP T hS ⟨[(1, Z s_), (2, Pt 3 0), (5, Z r112.1), (43, B (r112.2 == 0))], [(3, (25, [I f_.Vars, Sl a1 f_.Clauses c1]))]⟩ fun a hS => ?_
    refine wcond hS (b := (r112.2 == 0)) kr (fun hb => ?_) (fun hb => ?_)
    ·replace hm := hm.1 hb
     refine regO ?_
     refine oP T hS 1 ⟨[(1, Z s_), (2, Pt 3 0), (5, Z r112.1), (45, Z r112.1)], [(3, (25, [I f_.Vars, Sl a1 f_.Clauses c1]))]⟩ fun a hS => ?_
     refine op1 (call hS kr kr hb8 kr (fun _ _ => rfl) (k8 _ _ r112.1) ?_)
     intro v151 a w152 χ153 hE hp hS
     replace hO := hO.mv hE rfl rfl
     replace h1 := h1.mv hE rfl
     replace hAmb := hAmb.mv hE rfl
     clear hE
     obtain ⟨a155, c156, hp, h157⟩ := hp
     obtain ⟨r154, hr⟩ : ∃ r, dimacs_Parse r112.1 = r := ⟨_, rfl⟩
     replace hm := hm r154 hr
     rw [hr] at hp h157
     clear hr
     subst hp
     replace hm := hm (h157.sm kr)
     refine eM T hS ⟨[(1, Z s_), (2, Pt 3 0), (5, Z r112.1), (9, Pt 10 0), (10, I r154.2.1), (11, I r154.2.2)], [(3, (25, [I f_.Vars, Sl a1 f_.Clauses c1])), (10, (25, [I r154.1.Vars, Sl a155 r154.1.Clauses c156]))]⟩ fun ρ a w162 χ163 hS hE hr => ?_
     replace hO := hO.mv hE rfl rfl
     replace h1 := h1.mv hE rfl
     replace hAmb := hAmb.mv hE rfl
     replace h157 := h157.mv hE rfl
     clear hE hr
     refine regO ?_
     refine oP T hS 2 ⟨[(1, Z s_), (5, Z r112.1), (10, I r154.2.1), (11, I r154.2.2), (50, V (.agg #[.int .i64 f_.Vars, .slice a1 f_.Clauses.length c1])), (51, V (.agg #[.int .i64 r154.1.Vars, .slice a155 r154.1.Clauses.length c156]))], []⟩ fun a hS => ?_
     refine op1 (call hS kr kr hb18 kr (fun _ _ => rfl) (k18 _ _ f_ r154.1 a1 c1 a155 c156 h1 h157) ?_)
     intro v158 a w159 χ160 hE hp hS
     replace hO := hO.mv hE rfl rfl
     replace h1 := h1.mv hE rfl
     replace hAmb := hAmb.mv hE rfl
     replace h157 := h157.mv hE rfl
     clear hE
     obtain ⟨r161, hr⟩ : ∃ r, cnf_Same f_ r154.1 = r := ⟨_, rfl⟩
     replace hm := hm r161 hr
     rw [hr] at hp
     clear hr
     subst hp
     refine eP T hS ⟨[(1, Z s_), (63, B (((!r161) || (r154.2.1 != ((r112.1.length : Nat) : Int))) || (r154.2.2 != 0)))], []⟩ (sp := [54, 60]) fun a hS => ?_
     refine wcond hS (b := (((!r161) || (r154.2.1 != ((r112.1.length : Nat) : Int))) || (r154.2.2 != 0))) kr (fun hb => ?_) (fun hb => ?_)
     ·replace hm := hm.1 hb
      refine rP T hS ⟨[(4, B false)], []⟩ fun a hS => ?_
      refine wret ?_
      exact fin T hS hO (fun c => c) rfl (r := [.bool false]) kr (fun χ' hM hC => ⟨false, hm, rfl⟩)
     ·replace hm := hm.2 hb
      refine wskip ?_
      exact ⟨ρ, _, hm, hS.sl _, hO, hAmb⟩
    ·replace hm := hm.2 hb
     refine wskip ?_
     exact ⟨ρ, _, hm, hS.sl _, hO, hAmb⟩
   ·rintro a w165 ⟨ρ, χ164, hm, hS, hO, hAmb⟩
    unfold VC6_J1 at hm
    refine regO ?_
    refine oP T hS 1 ⟨[(65, Z s_)], []⟩ fun a hS => ?_
    refine op1 (call hS kr kr hb8 kr (fun _ _ => rfl) (k8 _ _ s_) ?_)
    intro v117 a w118 χ119 hE hp hS
    replace hO := hO.mv hE rfl rfl
    replace hAmb := hAmb.mv hE rfl
    clear hE
    obtain ⟨a121, c122, hp, h123⟩ := hp
    obtain ⟨r120, hr⟩ : ∃ r, dimacs_Parse s_ = r := ⟨_, rfl⟩
    replace hm := hm r120 hr
    rw [hr] at hp h123
    clear hr
    subst hp
    replace hm := hm (h123.sm kr)
    refine eM T hS ⟨[(12, Pt 13 0), (14, I r120.2.2)], [(13, (25, [I r120.1.Vars, Sl a121 r120.1.Clauses c122]))]⟩ fun ρ a w149 χ150 hS hE hr => ?_
    replace hO := hO.mv hE rfl rfl
    replace hAmb := hAmb.mv hE rfl
    replace h123 := h123.mv hE rfl
    clear hE hr
    refine wseq ?_
    refine rP T hS ⟨[(12, Pt 13 0), (71, B (r120.2.2 != 0))], [(13, (25, [I r120.1.Vars, Sl a121 r120.1.Clauses c122]))]⟩ fun a hS => ?_
    refine wcond hS (b := (r120.2.2 != 0)) kr (fun hb => ?_) (fun hb => ?_)
    ·replace hm := hm.1 hb
     refine regO ?_
     refine oP T hS 10 ⟨[(81, B ((r120.1.Vars == 0) && (((r120.1.Clauses.length : Nat) : Int) == 0)))], []⟩ (sp := [75]) fun a hS => ?_
     rcases Bool.eq_false_or_eq_true ((r120.1.Vars == 0) && (((r120.1.Clauses.length : Nat) : Int) == 0)) with hb | hb
     ·replace hS := hS.lit (t := 81) kr hb
      replace hm := hm.1 hb
      refine op1 (call hS kr kr hb7 kr (fun _ _ => rfl) (k7 _ _ hAmb) ?_)
      intro v124 a w125 χ126 hE hp hS
      replace hO := hO.mv hE rfl rfl
      replace hAmb := hAmb.mv hE rfl
      clear hE
      obtain ⟨r127, hr⟩ : ∃ r, law06_awake = r := ⟨_, rfl⟩
      replace hm := hm r127 hr
      rw [hr] at hp
      clear hr
      subst hp
      refine eP T hS ⟨[(4, B r127)], []⟩ fun a hS => ?_
      refine wret ?_
      exact fin T hS hO (fun c => c) rfl (r := [.bool r127]) kr (fun χ' hM hC => ⟨r127, hm, rfl⟩)
     ·replace hS := hS.lit (t := 81) kr hb
      replace hm := hm.2 hb
      refine eP T hS ⟨[(4, B false)], []⟩ fun a hS => ?_
      refine wret ?_
      exact fin T hS hO (fun c => c) rfl (r := [.bool false]) kr (fun χ' hM hC => ⟨false, hm, rfl⟩)
    ·replace hm := hm.2 hb
     refine wskip ?_
     refine regO ?_
     refine oP T hS 1 ⟨[(12, Pt 13 0), (85, V (.agg #[.int .i64 r120.1.Vars, .slice a121 r120.1.Clauses.length c122]))], [(13, (25, [I r120.1.Vars, Sl a121 r120.1.Clauses c122]))]⟩ fun a hS => ?_
     refine op1 (call hS kr kr hb12 kr (fun _ _ => rfl) (k12 _ _ r120.1 a121 c122 h123 hAmb) ?_)
     intro v128 a w129 χ130 hE hp hS
     replace hO := hO.mv hE rfl rfl
     replace hAmb := hAmb.mv hE rfl
     replace h123 := h123.mv hE rfl
     clear hE
     obtain ⟨r131, hr⟩ : ∃ r, dimacs_Print r120.1 = r := ⟨_, rfl⟩
     replace hm := hm r131 hr
     rw [hr] at hp
     clear hr
     subst hp
     refine eP T hS ⟨[(12, Pt 13 0), (15, Z r131.1), (16, I r131.2)], [(13, (25, [I r120.1.Vars, Sl a121 r120.1.Clauses c122]))]⟩ fun a hS => ?_
     refine regO ?_
     refine oP T hS 1 ⟨[(12, Pt 13 0), (16, I r131.2), (90, Z r131.1)], [(13, (25, [I r120.1.Vars, Sl a121 r120.1.Clauses c122]))]⟩ fun a hS => ?_
     refine op1 (call hS kr kr hb8 kr (fun _ _ => rfl) (k8 _ _ r131.1) ?_)
     intro v132 a w133 χ134 hE hp hS
     replace hO := hO.mv hE rfl rfl
     replace hAmb := hAmb.mv hE rfl
     replace h123 := h123.mv hE rfl
     clear hE
     obtain ⟨a136, c137, hp, h138⟩ := hp
     obtain ⟨r135, hr⟩ : ∃ r, dimacs_Parse r131.1 = r := ⟨_, rfl⟩
     replace hm := hm r135 hr
     rw [hr] at hp h138
     clear hr
     subst hp
     replace hm := hm (h138.sm kr)
     refine eM T hS ⟨[(12, Pt 13 0), (16, I r131.2), (17, Pt 18 0), (19, I r135.2.2)], [(13, (25, [I r120.1.Vars, Sl a121 r120.1.Clauses c122])), (18, (25, [I r135.1.Vars, Sl a136 r135.1.Clauses c137]))]⟩ fun ρ a w147 χ148 hS hE hr => ?_
     replace hO := hO.mv hE rfl rfl
     replace hAmb := hAmb.mv hE rfl
     replace h123 := h123.mv hE rfl
     replace h138 := h138.mv hE rfl
     clear hE hr
     refine regO ?_
     refine oP T hS 7 ⟨[(12, Pt 13 0), (17, Pt 18 0), (101, B ((r131.2 == 0) && (r135.2.2 == 0)))], [(13, (25, [I r120.1.Vars, Sl a121 r120.1.Clauses c122])), (18, (25, [I r135.1.Vars, Sl a136 r135.1.Clauses c137]))]⟩ (sp := [97]) fun a hS => ?_
     rcases Bool.eq_false_or_eq_true ((r131.2 == 0) && (r135.2.2 == 0)) with hb | hb
     ·replace hS := hS.lit (t := 101) kr hb
      replace hm := hm.1 hb
      refine oP T hS 2 ⟨[(101, B true), (102, V (.agg #[.int .i64 r135.1.Vars, .slice a136 r135.1.Clauses.length c137])), (103, V (.agg #[.int .i64 r120.1.Vars, .slice a121 r120.1.Clauses.length c122]))], []⟩ fun a hS => ?_
      refine op1 (call hS kr kr hb18 kr (fun _ _ => rfl) (k18 _ _ r135.1 r120.1 a136 c137 a121 c122 h138 h123) ?_)
      intro v139 a w140 χ141 hE hp hS
      replace hO := hO.mv hE rfl rfl
      replace hAmb := hAmb.mv hE rfl
      replace h123 := h123.mv hE rfl
      replace h138 := h138.mv hE rfl
      clear hE
      obtain ⟨r142, hr⟩ : ∃ r, cnf_Same r135.1 r120.1 = r := ⟨_, rfl⟩
      replace hm := hm r142 hr
      rw [hr] at hp
      clear hr
      subst hp
      refine oP T hS 2 ⟨[(106, B r142)], []⟩ fun a hS => ?_
      rcases Bool.eq_false_or_eq_true r142 with hb | hb
      ·replace hS := hS.lit (t := 106) kr hb
       replace hm := hm.1 hb
       refine op1 (call hS kr kr hb7 kr (fun _ _ => rfl) (k7 _ _ hAmb) ?_)
       intro v143 a w144 χ145 hE hp hS
       replace hO := hO.mv hE rfl rfl
       replace hAmb := hAmb.mv hE rfl
       clear hE
       obtain ⟨r146, hr⟩ : ∃ r, law06_awake = r := ⟨_, rfl⟩
       replace hm := hm r146 hr
       rw [hr] at hp
       clear hr
       subst hp
       refine eP T hS ⟨[(4, B r146)], []⟩ fun a hS => ?_
       refine wret ?_
       exact fin T hS hO (fun c => c) rfl (r := [.bool r146]) kr (fun χ' hM hC => ⟨r146, hm, rfl⟩)
      ·replace hS := hS.lit (t := 106) kr hb
       replace hm := hm.2 hb
       refine eP T hS ⟨[(4, B false)], []⟩ fun a hS => ?_
       refine wret ?_
       exact fin T hS hO (fun c => c) rfl (r := [.bool false]) kr (fun χ' hM hC => ⟨false, hm, rfl⟩)
     ·replace hS := hS.lit (t := 101) kr hb
      replace hm := hm.2 hb
      refine eP T hS ⟨[(4, B false)], []⟩ fun a hS => ?_
      refine wret ?_
      exact fin T hS hO (fun c => c) rfl (r := [.bool false]) kr (fun χ' hM hC => ⟨false, hm, rfl⟩)
end Go.Proofs.YtancoeikfkebfaaDoor
