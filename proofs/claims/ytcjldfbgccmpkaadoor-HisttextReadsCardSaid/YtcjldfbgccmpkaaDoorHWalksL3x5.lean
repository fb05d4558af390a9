/- Walks: each function returns what its condition asks. Condition: the contracts of its callees, handed in. -/
import Derived.Test.YtcjldfbgccmpkaaDoorHWalksS
set_option linter.all false
namespace Go.Proofs.YtcjldfbgccmpkaaDoor
open Go Go.Sv
set_option maxHeartbeats 1000000
/-- replevin/replevinref23.SameRows -/
theorem W49 (w0 : World) (χ0 : Nat → Nat) (a_ : List Api_Row) (b_ : List Api_Row) (a1 : Option Addr) (c1 : Nat) (a2 : Option Addr) (c2 : Nat) (Q : Bool → Prop) (hm : VC49 a_ b_ Q) (h1 : RS tApi_Row w0 χ0 a1 a_ c1) (h2 : RS tApi_Row w0 χ0 a2 b_ c2) :
  Ret Tryd.prog 49 #[.slice a1 a_.length c1, .slice a2 b_.length c2] xnone w0 χ0 (fun w χ' v => ∃ r, Q r ∧ v = .bool r) := by
 unfold VC49 at hm
 replace hm := hm (h1.sm kr)
 replace hm := hm (h2.sm kr)
 refine enter Tryd.func49 rfl (vals := [.slice a1 a_.length c1, .slice a2 b_.length c2]) kr ?_
 intro ρ a hS hO hM
 replace h1 := h1.m0 hM
 replace h2 := h2.m0 hM
 clear hM
 refine rP T hS ⟨[(0, Sl a1 a_ c1), (1, Sl a2 b_ c2)], []⟩ fun a hS => ?_
 refine wseq ?_
 refine rP T hS ⟨[(0, Sl a1 a_ c1), (1, Sl a2 b_ c2), (10, B (((a_.length : Nat) : Int) != ((b_.length : Nat) : Int)))], []⟩ fun a hS => ?_
 refine wcond hS (b := (((a_.length : Nat) : Int) != ((b_.length : Nat) : Int))) kr (fun hb => ?_) (fun hb => ?_)
 ·replace hm := hm.1 hb
  refine rP T hS ⟨[(4, B false)], []⟩ fun a hS => ?_
  refine wret ?_
  exact fin T hS hO (fun c => c) rfl (r := [.bool false]) kr (fun χ' hM hC => ⟨false, hm, rfl⟩)
 ·replace hm := hm.2 hb
  refine wskip ?_
  refine wcut (fun a w => ∃ (ρ : Nat → Nat) (χ : Nat → Nat), VC49_J1 Q ∧ St Tryd.f49.ntmps ⟨[], []⟩ ρ a w χ ∧ Old w0 χ0 w χ) ?_ ?_
  ·refine rP T hS ⟨[(0, Sl a1 a_ c1), (1, Sl a2 b_ c2), (5, I 0)], []⟩ fun a hS => ?_
   refine wblock ?_
   obtain ⟨I1, μ1, hm0, hm⟩ := hm
   refine wloop (σ := Int) (fun s a w => ∃ (ρ : Nat → Nat) (χ : Nat → Nat), I1 s ∧ St Tryd.f49.ntmps ⟨[(0, Sl a1 a_ c1), (1, Sl a2 b_ c2), (5, I s)], []⟩ ρ a w χ ∧ Old w0 χ0 w χ ∧ RS tApi_Row w χ a1 a_ c1 ∧ RS tApi_Row w χ a2 b_ c2) (fun s => μ1 s) (0) ?_ ?_
   ·exact ⟨ρ, _, hm0, hS.sl _, hO, h1, h2⟩
   ·rintro i_103 a w113 ⟨ρ, χ112, hI, hS, hO, h101, h102⟩
    replace hm := hm i_103 hI
    clear hI hm0
    refine wseq ?_
    refine rP T hS ⟨[(0, Sl a1 a_ c1), (1, Sl a2 b_ c2), (5, I i_103), (14, B (decide (i_103 < ((a_.length : Nat) : Int))))], []⟩ fun a hS => ?_
    refine wcond hS (b := decide (i_103 < ((a_.length : Nat) : Int))) kr (fun hb => ?_) (fun hb => ?_)
    ·replace hm := hm.1 hb
     refine wskip ?_
     refine wseq ?_
     refine wblock ?_
     refine drawnSX [] mixed hS ?_
     intro w104 χ105 hS hE hD hH
     replace hO := hO.mv hE rfl rfl
     replace h101 := h101.mv hE rfl
     replace h102 := h102.mv hE rfl
     clear hE
     refine tk T [0, 1, 4, 5] [] hS hH #[true, true, false, false, true, true, false, false, false] 5 ⟨[(0, Sl a1 a_ c1), (1, Sl a2 b_ c2), (5, I i_103), (17, Sl a1 a_ c1), (18, I i_103), (21, Sl a2 b_ c2), (22, I i_103)], []⟩ fun a hS => ?_
     obtain ⟨hq, hm⟩ := hm
     refine dindex (e := 99) (k := .i64) T 2 hS kr kr kr (by rfl) kr hH kr kr h101 kr kr hq.1 hq.2 ?_
     intro A106 a h107 hS
     clear hq
     have h107b := h107.here
     refine dloadA T 3 hS kr kr kr (by rfl) kr hH kr h107 h107b kr kr ?_
     intro v108 a hv hS
     subst hv
     obtain ⟨hq, hm⟩ := hm
     refine dindex (e := 99) (k := .i64) T 6 hS kr kr kr (by rfl) kr hH kr kr h102 kr kr hq.1 hq.2 ?_
     intro A109 a h110 hS
     clear hq
     have h110b := h110.here
     refine dloadA T 7 hS kr kr kr (by rfl) kr hH kr h110 h110b kr kr ?_
     intro v111 a hv hS
     subst hv
     refine dstructEq (op := .neq) (xs := [.int .i64 ((gi a_ i_103).State), .int .i64 ((gi a_ i_103).Kind), .int .i64 ((gi a_ i_103).Next), .int .i64 ((gi a_ i_103).Result)]) (ys := [.int .i64 ((gi b_ i_103).State), .int .i64 ((gi b_ i_103).Kind), .int .i64 ((gi b_ i_103).Next), .int .i64 ((gi b_ i_103).Result)]) (r := (((gi a_ i_103).State) == ((gi b_ i_103).State) && (((gi a_ i_103).Kind) == ((gi b_ i_103).Kind) && (((gi a_ i_103).Next) == ((gi b_ i_103).Next) && (((gi a_ i_103).Result) == ((gi b_ i_103).Result) && true))))) (b := (!(((gi a_ i_103).State) == ((gi b_ i_103).State) && (((gi a_ i_103).Kind) == ((gi b_ i_103).Kind) && (((gi a_ i_103).Next) == ((gi b_ i_103).Next) && (((gi a_ i_103).Result) == ((gi b_ i_103).Result) && true)))))) 8 T hS kr kr kr (by rfl) kr hH kr kr kr kr kr kr ?_
     intro a hS
     refine drawnDone kr ?_
     clear hD hH
     replace hS := hS.sl ⟨[(0, Sl a1 a_ c1), (1, Sl a2 b_ c2), (5, I i_103), (25, B (!(((gi a_ i_103).State) == ((gi b_ i_103).State) && (((gi a_ i_103).Kind) == ((gi b_ i_103).Kind) && (((gi a_ i_103).Next) == ((gi b_ i_103).Next) && (((gi a_ i_103).Result) == ((gi b_ i_103).Result) && true))))))], []⟩
     refine wcond hS (b := (!(((gi a_ i_103).State) == ((gi b_ i_103).State) && (((gi a_ i_103).Kind) == ((gi b_ i_103).Kind) && (((gi a_ i_103).Next) == ((gi b_ i_103).Next) && (((gi a_ i_103).Result) == ((gi b_ i_103).Result) && true)))))) kr (fun hb => ?_) (fun hb => ?_)
     ·replace hm := hm.1 hb
      refine rP T hS ⟨[(4, B false)], []⟩ fun a hS => ?_
      refine wret ?_
      exact fin T hS hO (fun c => c) rfl (r := [.bool false]) kr (fun χ' hM hC => ⟨false, hm, rfl⟩)
     ·replace hm := hm.2 hb
      refine wskip ?_
      refine region (eP T hS ⟨[(0, Sl a1 a_ c1), (1, Sl a2 b_ c2), (5, I (IntKind.i64.wrap (i_103 + 1)))], []⟩ fun a hS => ?_)
      exact ⟨IntKind.i64.wrap (i_103 + 1), ⟨ρ, _, hm.1, hS.sl _, hO, h101, h102⟩, hm.2⟩
    ·replace hm := hm.2 hb
     refine wexit (by rfl) ?_
     exact ⟨ρ, _, hm, hS.sl _, hO⟩
  ·rintro a w115 ⟨ρ, χ114, hm, hS, hO⟩
   unfold VC49_J1 at hm
   refine rP T hS ⟨[(4, B true)], []⟩ fun a hS => ?_
   refine wret ?_
   exact fin T hS hO (fun c => c) rfl (r := [.bool true]) kr (fun χ' hM hC => ⟨true, hm, rfl⟩)
theorem C49 (v : ∀ (a_ : List Api_Row) (b_ : List Api_Row), VC49 a_ b_ (fun r => r = ref23_SameRows a_ b_)) : S49 := by
 intro w χ a_ b_ a1 c1 a2 c2   h1 h2
 refine (W49 w χ a_ b_ a1 c1 a2 c2   _ (v a_ b_) h1 h2).mono ?_
 rintro _ _ _ _ ⟨r, rfl, h⟩
 exact h
/-- replevin/replevinref23.Same -/
theorem W23 (k49 : S49) (w0 : World) (χ0 : Nat → Nat) (a_ : Api_Object) (b_ : Api_Object) (a1 : Option Addr) (c1 : Nat) (a2 : Option Addr) (c2 : Nat) (Q : Bool → Prop) (hm : VC23 a_ b_ Q) (h1 : RS tApi_Row w0 χ0 a1 a_.Rows c1) (h2 : RS tApi_Row w0 χ0 a2 b_.Rows c2) :
  Ret Tryd.prog 23 #[.agg #[.int .i64 a_.States, .int .i64 a_.Kinds, .int .i64 a_.Init, .slice a1 a_.Rows.length c1], .agg #[.int .i64 b_.States, .int .i64 b_.Kinds, .int .i64 b_.Init, .slice a2 b_.Rows.length c2]] xnone w0 χ0 (fun w χ' v => ∃ r, Q r ∧ v = .bool r) := by
 unfold VC23 at hm
 replace hm := hm (h1.sm kr)
 replace hm := hm (h2.sm kr)
 refine enter Tryd.func23 rfl (vals := [.agg #[.int .i64 a_.States, .int .i64 a_.Kinds, .int .i64 a_.Init, .slice a1 a_.Rows.length c1], .agg #[.int .i64 b_.States, .int .i64 b_.Kinds, .int .i64 b_.Init, .slice a2 b_.Rows.length c2]]) kr ?_
 intro ρ a hS hO hM
 replace h1 := h1.m0 hM
 replace h2 := h2.m0 hM
 clear hM
 refine rM T hS ⟨[(2, Pt 3 0), (3, Pt 4 0)], [(3, (25, [I a_.States, I a_.Kinds, I a_.Init, Sl a1 a_.Rows c1])), (4, (25, [I b_.States, I b_.Kinds, I b_.Init, Sl a2 b_.Rows c2]))]⟩ fun ρ a w105 χ106 hS hE hr => ?_
 replace hO := hO.mv hE rfl rfl
 replace h1 := h1.mv hE rfl
 replace h2 := h2.mv hE rfl
 clear hE hr
 refine regO ?_
 refine oP T hS 20 ⟨[(2, Pt 3 0), (3, Pt 4 0), (24, B (((a_.States == b_.States) && (a_.Kinds == b_.Kinds)) && (a_.Init == b_.Init)))], [(3, (25, [I a_.States, I a_.Kinds, I a_.Init, Sl a1 a_.Rows c1])), (4, (25, [I b_.States, I b_.Kinds, I b_.Init, Sl a2 b_.Rows c2]))]⟩ (sp := [10, 17]) fun a hS => ?_
 rcases Bool.eq_false_or_eq_true (((a_.States == b_.States) && (a_.Kinds == b_.Kinds)) && (a_.Init == b_.Init)) with hb | hb
 ·replace hS := hS.lit (t := 24) kr hb
  replace hm := hm.1 hb
  refine oP T hS 4 ⟨[(24, B true), (26, Sl a1 a_.Rows c1), (28, Sl a2 b_.Rows c2)], []⟩ fun a hS => ?_
  refine op1 (call hS kr kr hb49 kr (fun _ _ => rfl) (k49 _ _ a_.Rows b_.Rows a1 c1 a2 c2 h1 h2) ?_)
  intro v101 a w102 χ103 hE hp hS
  replace hO := hO.mv hE rfl rfl
  replace h1 := h1.mv hE rfl
  replace h2 := h2.mv hE rfl
  clear hE
  obtain ⟨r104, hr⟩ : ∃ r, ref23_SameRows a_.Rows b_.Rows = r := ⟨_, rfl⟩
  replace hm := hm r104 hr
  rw [hr] at hp
  clear hr
  subst hp
  refine eP T hS ⟨[(4, B r104)], []⟩ fun a hS => ?_
  refine wret ?_
  exact fin T hS hO (fun c => c) rfl (r := [.bool r104]) kr (fun χ' hM hC => ⟨r104, hm, rfl⟩)
 ·replace hS := hS.lit (t := 24) kr hb
  replace hm := hm.2 hb
  refine eP T hS ⟨[(4, B false)], []⟩ fun a hS => ?_
  refine wret ?_
  exact fin T hS hO (fun c => c) rfl (r := [.bool false]) kr (fun χ' hM hC => ⟨false, hm, rfl⟩)
theorem C23 (k49 : S49) (v : ∀ (a_ : Api_Object) (b_ : Api_Object), VC23 a_ b_ (fun r => r = ref23_Same a_ b_)) : S23 := by
 intro w χ a_ b_ a1 c1 a2 c2   h1 h2
 refine (W23 k49 w χ a_ b_ a1 c1 a2 c2   _ (v a_ b_) h1 h2).mono ?_
 rintro _ _ _ _ ⟨r, rfl, h⟩
 exact h
/-- replevin/replevinref25.Same -/
theorem W24 (w0 : World) (χ0 : Nat → Nat) (a_ : List Api_Event) (b_ : List Api_Event) (a1 : Option Addr) (c1 : Nat) (a2 : Option Addr) (c2 : Nat) (Q : Bool → Prop) (hm : VC24 a_ b_ Q) (h1 : RS tApi_Event w0 χ0 a1 a_ c1) (h2 : RS tApi_Event w0 χ0 a2 b_ c2) :
  Ret Tryd.prog 24 #[.slice a1 a_.length c1, .slice a2 b_.length c2] xnone w0 χ0 (fun w χ' v => ∃ r, Q r ∧ v = .bool r) := by
 unfold VC24 at hm
 replace hm := hm (h1.sm kr)
 replace hm := hm (h2.sm kr)
 refine enter Tryd.func24 rfl (vals := [.slice a1 a_.length c1, .slice a2 b_.length c2]) kr ?_
 intro ρ a hS hO hM
 replace h1 := h1.m0 hM
 replace h2 := h2.m0 hM
 clear hM
 refine rP T hS ⟨[(0, Sl a1 a_ c1), (1, Sl a2 b_ c2)], []⟩ fun a hS => ?_
 refine wseq ?_
 refine rP T hS ⟨[(0, Sl a1 a_ c1), (1, Sl a2 b_ c2), (10, B (((a_.length : Nat) : Int) != ((b_.length : Nat) : Int)))], []⟩ fun a hS => ?_
 refine wcond hS (b := (((a_.length : Nat) : Int) != ((b_.length : Nat) : Int))) kr (fun hb => ?_) (fun hb => ?_)
 ·replace hm := hm.1 hb
  refine rP T hS ⟨[(4, B false)], []⟩ fun a hS => ?_
  refine wret ?_
  exact fin T hS hO (fun c => c) rfl (r := [.bool false]) kr (fun χ' hM hC => ⟨false, hm, rfl⟩)
 ·replace hm := hm.2 hb
  refine wskip ?_
  refine wcut (fun a w => ∃ (ρ : Nat → Nat) (χ : Nat → Nat), VC24_J1 Q ∧ St Tryd.f24.ntmps ⟨[], []⟩ ρ a w χ ∧ Old w0 χ0 w χ) ?_ ?_
  ·refine rP T hS ⟨[(0, Sl a1 a_ c1), (1, Sl a2 b_ c2), (5, I 0)], []⟩ fun a hS => ?_
   refine wblock ?_
   obtain ⟨I1, μ1, hm0, hm⟩ := hm
   refine wloop (σ := Int) (fun s a w => ∃ (ρ : Nat → Nat) (χ : Nat → Nat), I1 s ∧ St Tryd.f24.ntmps ⟨[(0, Sl a1 a_ c1), (1, Sl a2 b_ c2), (5, I s)], []⟩ ρ a w χ ∧ Old w0 χ0 w χ ∧ RS tApi_Event w χ a1 a_ c1 ∧ RS tApi_Event w χ a2 b_ c2) (fun s => μ1 s) (0) ?_ ?_
   ·exact ⟨ρ, _, hm0, hS.sl _, hO, h1, h2⟩
   ·rintro i_103 a w113 ⟨ρ, χ112, hI, hS, hO, h101, h102⟩
    replace hm := hm i_103 hI
    clear hI hm0
    refine wseq ?_
    refine rP T hS ⟨[(0, Sl a1 a_ c1), (1, Sl a2 b_ c2), (5, I i_103), (14, B (decide (i_103 < ((a_.length : Nat) : Int))))], []⟩ fun a hS => ?_
    refine wcond hS (b := decide (i_103 < ((a_.length : Nat) : Int))) kr (fun hb => ?_) (fun hb => ?_)
    ·replace hm := hm.1 hb
     refine wskip ?_
     refine wseq ?_
     refine wblock ?_
     refine drawnSX [] mixed hS ?_
     intro w104 χ105 hS hE hD hH
     replace hO := hO.mv hE rfl rfl
     replace h101 := h101.mv hE rfl
     replace h102 := h102.mv hE rfl
     clear hE
     refine tk T [0, 1, 4, 5] [] hS hH #[true, true, false, false, true, true, false, false, false] 5 ⟨[(0, Sl a1 a_ c1), (1, Sl a2 b_ c2), (5, I i_103), (17, Sl a1 a_ c1), (18, I i_103), (21, Sl a2 b_ c2), (22, I i_103)], []⟩ fun a hS => ?_
     obtain ⟨hq, hm⟩ := hm
     refine dindex (e := 51) (k := .i64) T 2 hS kr kr kr (by rfl) kr hH kr kr h101 kr kr hq.1 hq.2 ?_
     intro A106 a h107 hS
     clear hq
     have h107b := h107.here
     refine dloadA T 3 hS kr kr kr (by rfl) kr hH kr h107 h107b kr kr ?_
     intro v108 a hv hS
     subst hv
     obtain ⟨hq, hm⟩ := hm
     refine dindex (e := 51) (k := .i64) T 6 hS kr kr kr (by rfl) kr hH kr kr h102 kr kr hq.1 hq.2 ?_
     intro A109 a h110 hS
     clear hq
     have h110b := h110.here
     refine dloadA T 7 hS kr kr kr (by rfl) kr hH kr h110 h110b kr kr ?_
     intro v111 a hv hS
     subst hv
     refine dstructEq (op := .neq) (xs := [.int .i64 ((gi a_ i_103).What), .int .i64 ((gi a_ i_103).Prc), .int .i64 ((gi a_ i_103).N)]) (ys := [.int .i64 ((gi b_ i_103).What), .int .i64 ((gi b_ i_103).Prc), .int .i64 ((gi b_ i_103).N)]) (r := (((gi a_ i_103).What) == ((gi b_ i_103).What) && (((gi a_ i_103).Prc) == ((gi b_ i_103).Prc) && (((gi a_ i_103).N) == ((gi b_ i_103).N) && true)))) (b := (!(((gi a_ i_103).What) == ((gi b_ i_103).What) && (((gi a_ i_103).Prc) == ((gi b_ i_103).Prc) && (((gi a_ i_103).N) == ((gi b_ i_103).N) && true))))) 8 T hS kr kr kr (by rfl) kr hH kr kr kr kr kr kr ?_
     intro a hS
     refine drawnDone kr ?_
     clear hD hH
     replace hS := hS.sl ⟨[(0, Sl a1 a_ c1), (1, Sl a2 b_ c2), (5, I i_103), (25, B (!(((gi a_ i_103).What) == ((gi b_ i_103).What) && (((gi a_ i_103).Prc) == ((gi b_ i_103).Prc) && (((gi a_ i_103).N) == ((gi b_ i_103).N) && true)))))], []⟩
     refine wcond hS (b := (!(((gi a_ i_103).What) == ((gi b_ i_103).What) && (((gi a_ i_103).Prc) == ((gi b_ i_103).Prc) && (((gi a_ i_103).N) == ((gi b_ i_103).N) && true))))) kr (fun hb => ?_) (fun hb => ?_)
     ·replace hm := hm.1 hb
      refine rP T hS ⟨[(4, B false)], []⟩ fun a hS => ?_
      refine wret ?_
      exact fin T hS hO (fun c => c) rfl (r := [.bool false]) kr (fun χ' hM hC => ⟨false, hm, rfl⟩)
     ·replace hm := hm.2 hb
      refine wskip ?_
      refine region (eP T hS ⟨[(0, Sl a1 a_ c1), (1, Sl a2 b_ c2), (5, I (IntKind.i64.wrap (i_103 + 1)))], []⟩ fun a hS => ?_)
      exact ⟨IntKind.i64.wrap (i_103 + 1), ⟨ρ, _, hm.1, hS.sl _, hO, h101, h102⟩, hm.2⟩
    ·replace hm := hm.2 hb
     refine wexit (by rfl) ?_
     exact ⟨ρ, _, hm, hS.sl _, hO⟩
  ·rintro a w115 ⟨ρ, χ114, hm, hS, hO⟩
   unfold VC24_J1 at hm
   refine rP T hS ⟨[(4, B true)], []⟩ fun a hS => ?_
   refine wret ?_
   exact fin T hS hO (fun c => c) rfl (r := [.bool true]) kr (fun χ' hM hC => ⟨true, hm, rfl⟩)
theorem C24 (v : ∀ (a_ : List Api_Event) (b_ : List Api_Event), VC24 a_ b_ (fun r => r = ref25_Same a_ b_)) : S24 := by
 intro w χ a_ b_ a1 c1 a2 c2   h1 h2
 refine (W24 w χ a_ b_ a1 c1 a2 c2   _ (v a_ b_) h1 h2).mono ?_
 rintro _ _ _ _ ⟨r, rfl, h⟩
 exact h
/-- replevin/replevinlaw26.same -/
theorem W10 (k23 : S23) (k24 : S24) (w0 : World) (χ0 : Nat → Nat) (c_ : Histtext_Case) (o_ : Api_Object) (l_ : List Api_Event) (a1 : Option Addr) (c1 : Nat) (a2 : Option Addr) (c2 : Nat) (a3 : Option Addr) (c3 : Nat) (a4 : Option Addr) (c4 : Nat) (Q : Bool → Prop) (hm : VC10 c_ o_ l_ Q) (h1 : RS tApi_Row w0 χ0 a1 c_.Object.Rows c1) (h2 : RS tApi_Event w0 χ0 a2 c_.Events c2) (h3 : RS tApi_Row w0 χ0 a3 o_.Rows c3) (h4 : RS tApi_Event w0 χ0 a4 l_ c4) :
  Ret Tryd.prog 10 #[.agg #[.int .i64 c_.Object.States, .int .i64 c_.Object.Kinds, .int .i64 c_.Object.Init, .slice a1 c_.Object.Rows.length c1, .slice a2 c_.Events.length c2], .agg #[.int .i64 o_.States, .int .i64 o_.Kinds, .int .i64 o_.Init, .slice a3 o_.Rows.length c3], .slice a4 l_.length c4] xnone w0 χ0 (fun w χ' v => ∃ r, Q r ∧ v = .bool r) := by
 unfold VC10 at hm
 replace hm := hm (h1.sm kr)
 replace hm := hm (h2.sm kr)
 replace hm := hm (h3.sm kr)
 replace hm := hm (h4.sm kr)
 refine enter Tryd.func10 rfl (vals := [.agg #[.int .i64 c_.Object.States, .int .i64 c_.Object.Kinds, .int .i64 c_.Object.Init, .slice a1 c_.Object.Rows.length c1, .slice a2 c_.Events.length c2], .agg #[.int .i64 o_.States, .int .i64 o_.Kinds, .int .i64 o_.Init, .slice a3 o_.Rows.length c3], .slice a4 l_.length c4]) kr ?_
 intro ρ a hS hO hM
 replace h1 := h1.m0 hM
 replace h2 := h2.m0 hM
 replace h3 := h3.m0 hM
 replace h4 := h4.m0 hM
 clear hM
 refine rM T hS ⟨[(2, Sl a4 l_ c4), (3, Pt 4 0), (4, Pt 5 0)], [(4, (28, [I c_.Object.States, I c_.Object.Kinds, I c_.Object.Init, Sl a1 c_.Object.Rows c1, Sl a2 c_.Events c2])), (5, (25, [I o_.States, I o_.Kinds, I o_.Init, Sl a3 o_.Rows c3]))]⟩ fun ρ a w109 χ110 hS hE hr => ?_
 replace hO := hO.mv hE rfl rfl
 replace h1 := h1.mv hE rfl
 replace h2 := h2.mv hE rfl
 replace h3 := h3.mv hE rfl
 replace h4 := h4.mv hE rfl
 clear hE hr
 refine regO ?_
 refine oP T hS 3 ⟨[(2, Sl a4 l_ c4), (3, Pt 4 0), (8, V (.agg #[.int .i64 c_.Object.States, .int .i64 c_.Object.Kinds, .int .i64 c_.Object.Init, .slice a1 c_.Object.Rows.length c1])), (9, V (.agg #[.int .i64 o_.States, .int .i64 o_.Kinds, .int .i64 o_.Init, .slice a3 o_.Rows.length c3]))], [(4, (28, [I c_.Object.States, I c_.Object.Kinds, I c_.Object.Init, Sl a1 c_.Object.Rows c1, Sl a2 c_.Events c2]))]⟩ fun a hS => ?_
 refine op1 (call hS kr kr hb23 kr (fun _ _ => rfl) (k23 _ _ c_.Object o_ a1 c1 a3 c3 h1 h3) ?_)
 intro v101 a w102 χ103 hE hp hS
 replace hO := hO.mv hE rfl rfl
 replace h1 := h1.mv hE rfl
 replace h2 := h2.mv hE rfl
 replace h3 := h3.mv hE rfl
 replace h4 := h4.mv hE rfl
 clear hE
 obtain ⟨r104, hr⟩ : ∃ r, ref23_Same c_.Object o_ = r := ⟨_, rfl⟩
 replace hm := hm r104 hr
 rw [hr] at hp
 clear hr
 subst hp
 refine oP T hS 1 ⟨[(2, Sl a4 l_ c4), (3, Pt 4 0), (11, B r104)], [(4, (28, [I c_.Object.States, I c_.Object.Kinds, I c_.Object.Init, Sl a1 c_.Object.Rows c1, Sl a2 c_.Events c2]))]⟩ fun a hS => ?_
 rcases Bool.eq_false_or_eq_true r104 with hb | hb
 ·replace hS := hS.lit (t := 11) kr hb
  replace hm := hm.1 hb
  refine oP T hS 3 ⟨[(11, B true), (13, Sl a2 c_.Events c2), (14, Sl a4 l_ c4)], []⟩ fun a hS => ?_
  refine op1 (call hS kr kr hb24 kr (fun _ _ => rfl) (k24 _ _ c_.Events l_ a2 c2 a4 c4 h2 h4) ?_)
  intro v105 a w106 χ107 hE hp hS
  replace hO := hO.mv hE rfl rfl
  replace h2 := h2.mv hE rfl
  replace h4 := h4.mv hE rfl
  clear hE
  obtain ⟨r108, hr⟩ : ∃ r, ref25_Same c_.Events l_ = r := ⟨_, rfl⟩
  replace hm := hm r108 hr
  rw [hr] at hp
  clear hr
  subst hp
  refine eP T hS ⟨[(6, B r108)], []⟩ fun a hS => ?_
  refine wret ?_
  exact fin T hS hO (fun c => c) rfl (r := [.bool r108]) kr (fun χ' hM hC => ⟨r108, hm, rfl⟩)
 ·replace hS := hS.lit (t := 11) kr hb
  replace hm := hm.2 hb
  refine eP T hS ⟨[(6, B false)], []⟩ fun a hS => ?_
  refine wret ?_
  exact fin T hS hO (fun c => c) rfl (r := [.bool false]) kr (fun χ' hM hC => ⟨false, hm, rfl⟩)
theorem C10 (k23 : S23) (k24 : S24) (v : ∀ (c_ : Histtext_Case) (o_ : Api_Object) (l_ : List Api_Event), VC10 c_ o_ l_ (fun r => r = law26_same c_ o_ l_)) : S10 := by
 intro w χ c_ o_ l_ a1 c1 a2 c2 a3 c3 a4 c4   h1 h2 h3 h4
 refine (W10 k23 k24 w χ c_ o_ l_ a1 c1 a2 c2 a3 c3 a4 c4   _ (v c_ o_ l_) h1 h2 h3 h4).mono ?_
 rintro _ _ _ _ ⟨r, rfl, h⟩
 exact h
end Go.Proofs.YtcjldfbgccmpkaaDoor
