/- Walks: each function returns what its condition asks. Condition: the contracts of its callees, handed in. -/
import Derived.Test.YtlpcjbjlgeaapaaVC
import Derived.Test.YtlpcjbjlgeaapaaReps
set_option linter.all false
namespace Go.Proofs.Ytlpcjbjlgeaapaa
open Go Go.Sv
set_option maxHeartbeats 1000000
def S21 : Prop := ∀ (w : World) (χ : Nat → Nat) (s_ : Numbering_Size), Ret Try.prog 21 #[.agg #[.int .i64 s_.Ops, .int .i64 s_.States]] xnone w χ (fun w χ' v => v = .int .i64 (numbering_Check s_))
theorem hb21 : hasBody Try.prog 21 = true := by kernel_rfl
/-- replevin/numbering.Check -/
theorem W21 (w0 : World) (χ0 : Nat → Nat) (s_ : Numbering_Size) (Q : Int → Prop) (hm : VC21 s_ Q) :
    Ret Try.prog 21 #[.agg #[.int .i64 s_.Ops, .int .i64 s_.States]] xnone w0 χ0 (fun w χ' v => ∃ r, Q r ∧ v = .int .i64 r) := by
  unfold VC21 at hm
  refine enter Try.func21 rfl (vals := [.agg #[.int .i64 s_.Ops, .int .i64 s_.States]]) (by kernel_rfl) ?_
  intro ρ a hS hO hM
  clear hM
  refine regM T hS (sp := []) (ks := [1]) (bs := [2]) (sy' := ⟨[(1, Pt 2 0)], [(2, (23, [I s_.Ops, I s_.States]))]⟩) (by kernel_rfl) ?_
  intro ρ a w101 χ102 hS hE
  replace hO := hO.mv hE rfl rfl
  clear hE
  refine wseq ?_
  refine regP T hS (sp := [6, 11, 16]) (ks := [20]) (bs := []) (sy' := ⟨[(20, B ((((decide (s_.Ops < 0)) || (decide (s_.Ops > 64))) || (decide (s_.States < 1))) || (decide (s_.States > 32))))], []⟩) (by kernel_rfl) ?_
  intro a hS
  refine wcond hS (b := ((((decide (s_.Ops < 0)) || (decide (s_.Ops > 64))) || (decide (s_.States < 1))) || (decide (s_.States > 32)))) (by kernel_rfl) (fun hb => ?_) (fun hb => ?_)
  · replace hm := hm.1 hb
    refine regP T hS (sp := []) (ks := [2]) (bs := []) (sy' := ⟨[(2, I 2)], []⟩) (by kernel_rfl) ?_
    intro a hS
    refine wret ?_
    exact fin T hS hO (fun c => c) rfl (r := [.int .i64 2]) (by kernel_rfl) (fun χ' hM hC => ⟨2, hm, rfl⟩)
  · replace hm := hm.2 hb
    refine wskip ?_
    refine regP T hS (sp := []) (ks := [2]) (bs := []) (sy' := ⟨[(2, I 0)], []⟩) (by kernel_rfl) ?_
    intro a hS
    refine wret ?_
    exact fin T hS hO (fun c => c) rfl (r := [.int .i64 0]) (by kernel_rfl) (fun χ' hM hC => ⟨0, hm, rfl⟩)
theorem C21 (v : ∀ (s_ : Numbering_Size), VC21 s_ (fun r => r = numbering_Check s_)) : S21 := by
  intro w χ s_   
  refine (W21 w χ s_   _ (v s_)).mono ?_
  rintro _ _ _ _ ⟨r, rfl, h⟩
  exact h

def S22 : Prop := ∀ (w : World) (χ : Nat → Nat) (ops : Int) (states : Int), Ret Try.prog 22 #[.int .i64 ops, .int .i64 states] xnone w χ (fun w χ' v => v = .int .i64 (ref31_Check ops states))
theorem hb22 : hasBody Try.prog 22 = true := by kernel_rfl
/-- replevin/replevinref31.Check -/
theorem W22 (w0 : World) (χ0 : Nat → Nat) (ops : Int) (states : Int) (Q : Int → Prop) (hm : VC22 ops states Q) :
    Ret Try.prog 22 #[.int .i64 ops, .int .i64 states] xnone w0 χ0 (fun w χ' v => ∃ r, Q r ∧ v = .int .i64 r) := by
  unfold VC22 at hm
  refine enter Try.func22 rfl (vals := [.int .i64 ops, .int .i64 states]) (by kernel_rfl) ?_
  intro ρ a hS hO hM
  clear hM
  refine regP T hS (sp := []) (ks := [0, 1]) (bs := []) (sy' := ⟨[(0, I ops), (1, I states)], []⟩) (by kernel_rfl) ?_
  intro a hS
  refine wseq ?_
  refine regP T hS (sp := [7, 11, 15]) (ks := [18]) (bs := []) (sy' := ⟨[(18, B ((((decide (ops < 0)) || (decide (ops > 64))) || (decide (states < 1))) || (decide (states > 32))))], []⟩) (by kernel_rfl) ?_
  intro a hS
  refine wcond hS (b := ((((decide (ops < 0)) || (decide (ops > 64))) || (decide (states < 1))) || (decide (states > 32)))) (by kernel_rfl) (fun hb => ?_) (fun hb => ?_)
  · replace hm := hm.1 hb
    refine regP T hS (sp := []) (ks := [4]) (bs := []) (sy' := ⟨[(4, I 2)], []⟩) (by kernel_rfl) ?_
    intro a hS
    refine wret ?_
    exact fin T hS hO (fun c => c) rfl (r := [.int .i64 2]) (by kernel_rfl) (fun χ' hM hC => ⟨2, hm, rfl⟩)
  · replace hm := hm.2 hb
    refine wskip ?_
    refine regP T hS (sp := []) (ks := [4]) (bs := []) (sy' := ⟨[(4, I 0)], []⟩) (by kernel_rfl) ?_
    intro a hS
    refine wret ?_
    exact fin T hS hO (fun c => c) rfl (r := [.int .i64 0]) (by kernel_rfl) (fun χ' hM hC => ⟨0, hm, rfl⟩)
theorem C22 (v : ∀ (ops : Int) (states : Int), VC22 ops states (fun r => r = ref31_Check ops states)) : S22 := by
  intro w χ ops states   
  refine (W22 w χ ops states   _ (v ops states)).mono ?_
  rintro _ _ _ _ ⟨r, rfl, h⟩
  exact h

def S56 : Prop := ∀ (w : World) (χ : Nat → Nat) (s_ : Numbering_Size) (kind : Int), Ret Try.prog 56 #[.agg #[.int .i64 s_.Ops, .int .i64 s_.States], .int .i64 kind] xnone w χ (fun w χ' v => v = .tuple #[.int .i64 ((numbering_Size_block s_ kind).1), .int .i64 ((numbering_Size_block s_ kind).2.1), .int .i64 ((numbering_Size_block s_ kind).2.2)])
theorem hb56 : hasBody Try.prog 56 = true := by kernel_rfl
/-- (replevin/numbering.Size).block -/
theorem W56 (w0 : World) (χ0 : Nat → Nat) (s_ : Numbering_Size) (kind : Int) (Q : Int × Int × Int → Prop) (hm : VC56 s_ kind Q) :
    Ret Try.prog 56 #[.agg #[.int .i64 s_.Ops, .int .i64 s_.States], .int .i64 kind] xnone w0 χ0 (fun w χ' v => ∃ r, Q r ∧ v = .tuple #[.int .i64 r.1, .int .i64 r.2.1, .int .i64 r.2.2]) := by
  unfold VC56 at hm
  refine enter Try.func56 rfl (vals := [.agg #[.int .i64 s_.Ops, .int .i64 s_.States], .int .i64 kind]) (by kernel_rfl) ?_
  intro ρ a hS hO hM
  clear hM
  refine regM T hS (sp := []) (ks := [1, 2]) (bs := [3]) (sy' := ⟨[(1, I kind), (2, Pt 3 0)], [(3, (23, [I s_.Ops, I s_.States]))]⟩) (by kernel_rfl) ?_
  intro ρ a w104 χ105 hS hE
  replace hO := hO.mv hE rfl rfl
  clear hE
  refine wseq ?_
  refine regP T hS (sp := []) (ks := [2, 7]) (bs := [3]) (sy' := ⟨[(2, Pt 3 0), (7, I kind)], [(3, (23, [I s_.Ops, I s_.States]))]⟩) (by kernel_rfl) ?_
  intro a hS
  refine wblock ?_
  refine regP T hS (sp := []) (ks := [2, 7, 8]) (bs := [3]) (sy' := ⟨[(2, Pt 3 0), (7, I kind), (8, B (kind == 1))], [(3, (23, [I s_.Ops, I s_.States]))]⟩) (by kernel_rfl) ?_
  intro a hS
  refine wcond hS (b := (kind == 1)) (by kernel_rfl) (fun hb => ?_) (fun hb => ?_)
  · replace hm := hm.1 hb
    refine drawnS [3] mixed hS ?_
    intro w101 hS hE hD hH
    replace hO := hO.mv hE rfl rfl
    clear hE
    refine take T [0, 2, 4, 1, 3, 5, 6] [3] [4, 5, 6] hS (by kernel_rfl) (by kernel_rfl) (by kernel_rfl) hH (listed' := #[true, true, true, true, true, true, true]) (fuel := 0) (sy' := ⟨[(4, I 0), (5, I s_.Ops), (6, I s_.Ops)], [(3, (23, [I s_.Ops, I s_.States]))]⟩) (by kernel_rfl) (by rfl) ?_
    intro a hS
    refine drawnDone (by kernel_rfl) ?_
    clear hD hH
    replace hS := hS.sel [4, 5, 6] [] (sy' := ⟨[(4, I 0), (5, I s_.Ops), (6, I s_.Ops)], []⟩) (by kernel_rfl)
    refine wret ?_
    exact fin T hS hO (fun c => c) rfl (r := [.int .i64 0, .int .i64 s_.Ops, .int .i64 s_.Ops]) (by kernel_rfl) (fun χ' hM hC => ⟨(0, s_.Ops, s_.Ops), hm, rfl⟩)
  · replace hm := hm.2 hb
    refine regP T hS (sp := []) (ks := [2, 14]) (bs := [3]) (sy' := ⟨[(2, Pt 3 0), (14, B (kind == 2))], [(3, (23, [I s_.Ops, I s_.States]))]⟩) (by kernel_rfl) ?_
    intro a hS
    refine wcond hS (b := (kind == 2)) (by kernel_rfl) (fun hb => ?_) (fun hb => ?_)
    · replace hm := hm.1 hb
      refine drawnS [3] mixed hS ?_
      intro w102 hS hE hD hH
      replace hO := hO.mv hE rfl rfl
      clear hE
      refine take T [0, 2, 5, 1, 3, 6, 4, 7, 8, 9] [3] [4, 5, 6] hS (by kernel_rfl) (by kernel_rfl) (by kernel_rfl) hH (listed' := #[true, true, true, true, true, true, true, true, true, true]) (fuel := 0) (sy' := ⟨[(4, I (IntKind.i64.wrap (s_.Ops * s_.Ops))), (5, I 1), (6, I s_.Ops)], [(3, (23, [I s_.Ops, I s_.States]))]⟩) (by kernel_rfl) (by rfl) ?_
      intro a hS
      refine drawnDone (by kernel_rfl) ?_
      clear hD hH
      replace hS := hS.sel [4, 5, 6] [] (sy' := ⟨[(4, I (IntKind.i64.wrap (s_.Ops * s_.Ops))), (5, I 1), (6, I s_.Ops)], []⟩) (by kernel_rfl)
      refine wret ?_
      exact fin T hS hO (fun c => c) rfl (r := [.int .i64 (IntKind.i64.wrap (s_.Ops * s_.Ops)), .int .i64 1, .int .i64 s_.Ops]) (by kernel_rfl) (fun χ' hM hC => ⟨(IntKind.i64.wrap (s_.Ops * s_.Ops), 1, s_.Ops), hm, rfl⟩)
    · replace hm := hm.2 hb
      refine wskip ?_
      refine drawnS [3] mixed hS ?_
      intro w103 hS hE hD hH
      replace hO := hO.mv hE rfl rfl
      clear hE
      refine take T [0, 2, 5, 8, 10, 1, 3, 6, 9, 11, 4, 12, 7, 13, 14, 15] [3] [4, 5, 6] hS (by kernel_rfl) (by kernel_rfl) (by kernel_rfl) hH (listed' := #[true, true, true, true, true, true, true, true, true, true, true, true, true, true, true, true]) (fuel := 0) (sy' := ⟨[(4, I (IntKind.i64.wrap ((IntKind.i64.wrap (s_.Ops * s_.Ops)) + s_.Ops))), (5, I s_.States), (6, I (IntKind.i64.wrap (s_.Ops + 1)))], [(3, (23, [I s_.Ops, I s_.States]))]⟩) (by kernel_rfl) (by rfl) ?_
      intro a hS
      refine drawnDone (by kernel_rfl) ?_
      clear hD hH
      replace hS := hS.sel [4, 5, 6] [] (sy' := ⟨[(4, I (IntKind.i64.wrap ((IntKind.i64.wrap (s_.Ops * s_.Ops)) + s_.Ops))), (5, I s_.States), (6, I (IntKind.i64.wrap (s_.Ops + 1)))], []⟩) (by kernel_rfl)
      refine wret ?_
      exact fin T hS hO (fun c => c) rfl (r := [.int .i64 (IntKind.i64.wrap ((IntKind.i64.wrap (s_.Ops * s_.Ops)) + s_.Ops)), .int .i64 s_.States, .int .i64 (IntKind.i64.wrap (s_.Ops + 1))]) (by kernel_rfl) (fun χ' hM hC => ⟨(IntKind.i64.wrap ((IntKind.i64.wrap (s_.Ops * s_.Ops)) + s_.Ops), s_.States, IntKind.i64.wrap (s_.Ops + 1)), hm, rfl⟩)
theorem C56 (v : ∀ (s_ : Numbering_Size) (kind : Int), VC56 s_ kind (fun r => r = numbering_Size_block s_ kind)) : S56 := by
  intro w χ s_ kind   
  refine (W56 w χ s_ kind   _ (v s_ kind)).mono ?_
  rintro _ _ _ _ ⟨r, rfl, h⟩
  exact h

def S23 : Prop := ∀ (w : World) (χ : Nat → Nat) (s_ : Numbering_Size), Ret Try.prog 23 #[.agg #[.int .i64 s_.Ops, .int .i64 s_.States]] xnone w χ (fun w χ' v => v = .int .i64 (numbering_Vars s_))
theorem hb23 : hasBody Try.prog 23 = true := by kernel_rfl
/-- replevin/numbering.Vars -/
theorem W23 (k21 : S21) (k56 : S56) (w0 : World) (χ0 : Nat → Nat) (s_ : Numbering_Size) (Q : Int → Prop) (hm : VC23 s_ Q) :
    Ret Try.prog 23 #[.agg #[.int .i64 s_.Ops, .int .i64 s_.States]] xnone w0 χ0 (fun w χ' v => ∃ r, Q r ∧ v = .int .i64 r) := by
  unfold VC23 at hm
  refine enter Try.func23 rfl (vals := [.agg #[.int .i64 s_.Ops, .int .i64 s_.States]]) (by kernel_rfl) ?_
  intro ρ a hS hO hM
  clear hM
  refine regM T hS (sp := []) (ks := [1]) (bs := [2]) (sy' := ⟨[(1, Pt 2 0)], [(2, (23, [I s_.Ops, I s_.States]))]⟩) (by kernel_rfl) ?_
  intro ρ a w109 χ110 hS hE
  replace hO := hO.mv hE rfl rfl
  clear hE
  refine wseq ?_
  refine regO ?_
  refine opsP T hS 1 (sp := []) (ks := [1, 6]) (bs := [2]) (sy' := ⟨[(1, Pt 2 0), (6, V (.agg #[.int .i64 s_.Ops, .int .i64 s_.States]))], [(2, (23, [I s_.Ops, I s_.States]))]⟩) (by kernel_rfl) ?_
  intro a hS
  refine op1 (call hS (by kernel_rfl) (by kernel_rfl) hb21 (by kernel_rfl) (fun _ _ => rfl) (k21 _ _ s_) ?_)
  intro v101 a w102 χ103 hE hp hS
  replace hO := hO.mv hE rfl rfl
  clear hE
  obtain ⟨r104, hr⟩ : ∃ r, numbering_Check s_ = r := ⟨_, rfl⟩
  replace hm := hm r104 hr
  rw [hr] at hp
  clear hr
  subst hp
  refine endP T hS (sp := []) (ks := [1, 8]) (bs := [2]) (sy' := ⟨[(1, Pt 2 0), (8, B (r104 != 0))], [(2, (23, [I s_.Ops, I s_.States]))]⟩) (by kernel_rfl) ?_
  intro a hS
  refine wcond hS (b := (r104 != 0)) (by kernel_rfl) (fun hb => ?_) (fun hb => ?_)
  · replace hm := hm.1 hb
    refine regP T hS (sp := []) (ks := [2]) (bs := []) (sy' := ⟨[(2, I 0)], []⟩) (by kernel_rfl) ?_
    intro a hS
    refine wret ?_
    exact fin T hS hO (fun c => c) rfl (r := [.int .i64 0]) (by kernel_rfl) (fun χ' hM hC => ⟨0, hm, rfl⟩)
  · replace hm := hm.2 hb
    refine wskip ?_
    refine regO ?_
    refine opsP T hS 1 (sp := []) (ks := [10]) (bs := []) (sy' := ⟨[(10, V (.agg #[.int .i64 s_.Ops, .int .i64 s_.States]))], []⟩) (by kernel_rfl) ?_
    intro a hS
    refine op1 (call hS (by kernel_rfl) (by kernel_rfl) hb56 (by kernel_rfl) (fun _ _ => rfl) (k56 _ _ s_ 3) ?_)
    intro v105 a w106 χ107 hE hp hS
    replace hO := hO.mv hE rfl rfl
    clear hE
    obtain ⟨r108, hr⟩ : ∃ r, numbering_Size_block s_ 3 = r := ⟨_, rfl⟩
    replace hm := hm r108 hr
    rw [hr] at hp
    clear hr
    subst hp
    refine endP T hS (sp := []) (ks := [3, 4, 5]) (bs := []) (sy' := ⟨[(3, I r108.1), (4, I r108.2.1), (5, I r108.2.2)], []⟩) (by kernel_rfl) ?_
    intro a hS
    refine regP T hS (sp := []) (ks := [2]) (bs := []) (sy' := ⟨[(2, I (IntKind.i64.wrap (r108.1 + (IntKind.i64.wrap (r108.2.1 * r108.2.2)))))], []⟩) (by kernel_rfl) ?_
    intro a hS
    refine wret ?_
    exact fin T hS hO (fun c => c) rfl (r := [.int .i64 (IntKind.i64.wrap (r108.1 + (IntKind.i64.wrap (r108.2.1 * r108.2.2))))]) (by kernel_rfl) (fun χ' hM hC => ⟨(IntKind.i64.wrap (r108.1 + (IntKind.i64.wrap (r108.2.1 * r108.2.2)))), hm, rfl⟩)
theorem C23 (k21 : S21) (k56 : S56) (v : ∀ (s_ : Numbering_Size), VC23 s_ (fun r => r = numbering_Vars s_)) : S23 := by
  intro w χ s_   
  refine (W23 k21 k56 w χ s_   _ (v s_)).mono ?_
  rintro _ _ _ _ ⟨r, rfl, h⟩
  exact h

def S24 : Prop := ∀ (w : World) (χ : Nat → Nat) (s_ : Numbering_Size) (n_ : Numbering_Name), Ret Try.prog 24 #[.agg #[.int .i64 s_.Ops, .int .i64 s_.States], .agg #[.int .i64 n_.Kind, .int .i64 n_.A, .int .i64 n_.B]] xnone w χ (fun w χ' v => v = .int .i64 (numbering_Var s_ n_))
theorem hb24 : hasBody Try.prog 24 = true := by kernel_rfl
/-- replevin/numbering.Var -/
theorem W24 (k21 : S21) (k56 : S56) (w0 : World) (χ0 : Nat → Nat) (s_ : Numbering_Size) (n_ : Numbering_Name) (Q : Int → Prop) (hm : VC24 s_ n_ Q) :
    Ret Try.prog 24 #[.agg #[.int .i64 s_.Ops, .int .i64 s_.States], .agg #[.int .i64 n_.Kind, .int .i64 n_.A, .int .i64 n_.B]] xnone w0 χ0 (fun w χ' v => ∃ r, Q r ∧ v = .int .i64 r) := by
  unfold VC24 at hm
  refine enter Try.func24 rfl (vals := [.agg #[.int .i64 s_.Ops, .int .i64 s_.States], .agg #[.int .i64 n_.Kind, .int .i64 n_.A, .int .i64 n_.B]]) (by kernel_rfl) ?_
  intro ρ a hS hO hM
  clear hM
  refine regM T hS (sp := []) (ks := [2, 3]) (bs := [3, 4]) (sy' := ⟨[(2, Pt 3 0), (3, Pt 4 0)], [(3, (23, [I s_.Ops, I s_.States])), (4, (25, [I n_.Kind, I n_.A, I n_.B]))]⟩) (by kernel_rfl) ?_
  intro ρ a w109 χ110 hS hE
  replace hO := hO.mv hE rfl rfl
  clear hE
  refine wseq ?_
  refine regO ?_
  refine opsP T hS 1 (sp := []) (ks := [2, 3, 9]) (bs := [3, 4]) (sy' := ⟨[(2, Pt 3 0), (3, Pt 4 0), (9, V (.agg #[.int .i64 s_.Ops, .int .i64 s_.States]))], [(3, (23, [I s_.Ops, I s_.States])), (4, (25, [I n_.Kind, I n_.A, I n_.B]))]⟩) (by kernel_rfl) ?_
  intro a hS
  refine op1 (call hS (by kernel_rfl) (by kernel_rfl) hb21 (by kernel_rfl) (fun _ _ => rfl) (k21 _ _ s_) ?_)
  intro v101 a w102 χ103 hE hp hS
  replace hO := hO.mv hE rfl rfl
  clear hE
  obtain ⟨r104, hr⟩ : ∃ r, numbering_Check s_ = r := ⟨_, rfl⟩
  replace hm := hm r104 hr
  rw [hr] at hp
  clear hr
  subst hp
  refine endP T hS (sp := [12, 17]) (ks := [2, 3, 21]) (bs := [3, 4]) (sy' := ⟨[(2, Pt 3 0), (3, Pt 4 0), (21, B (((r104 != 0) || (decide (n_.Kind ≤ 0))) || (decide (n_.Kind > 3))))], [(3, (23, [I s_.Ops, I s_.States])), (4, (25, [I n_.Kind, I n_.A, I n_.B]))]⟩) (by kernel_rfl) ?_
  intro a hS
  refine wcond hS (b := (((r104 != 0) || (decide (n_.Kind ≤ 0))) || (decide (n_.Kind > 3)))) (by kernel_rfl) (fun hb => ?_) (fun hb => ?_)
  · replace hm := hm.1 hb
    refine regP T hS (sp := []) (ks := [4]) (bs := []) (sy' := ⟨[(4, I 0)], []⟩) (by kernel_rfl) ?_
    intro a hS
    refine wret ?_
    exact fin T hS hO (fun c => c) rfl (r := [.int .i64 0]) (by kernel_rfl) (fun χ' hM hC => ⟨0, hm, rfl⟩)
  · replace hm := hm.2 hb
    refine wskip ?_
    refine regP T hS (sp := []) (ks := [3, 5]) (bs := [4]) (sy' := ⟨[(3, Pt 4 0), (5, .f (.func 56) [.v (.agg #[.int .i64 s_.Ops, .int .i64 s_.States])] [])], [(4, (25, [I n_.Kind, I n_.A, I n_.B]))]⟩) (by kernel_rfl) ?_
    intro a hS
    refine regO ?_
    refine opsP T hS 3 (sp := []) (ks := [3, 25, 27]) (bs := [4]) (sy' := ⟨[(3, Pt 4 0), (25, .f (.func 56) [.v (.agg #[.int .i64 s_.Ops, .int .i64 s_.States])] []), (27, I n_.Kind)], [(4, (25, [I n_.Kind, I n_.A, I n_.B]))]⟩) (by kernel_rfl) ?_
    intro a hS
    refine op1 (callC (fi := [.v (.agg #[.int .i64 s_.Ops, .int .i64 s_.States])]) (cp := []) hS (by kernel_rfl) (by kernel_rfl) hb56 (by kernel_rfl) (by kernel_rfl) (fun _ _ => rfl) (k56 _ _ s_ n_.Kind) ?_)
    intro v105 a w106 χ107 hE hp hS
    replace hO := hO.mv hE rfl rfl
    clear hE
    obtain ⟨r108, hr⟩ : ∃ r, numbering_Size_block s_ n_.Kind = r := ⟨_, rfl⟩
    replace hm := hm r108 hr
    rw [hr] at hp
    clear hr
    subst hp
    refine endP T hS (sp := []) (ks := [3, 6, 7, 8]) (bs := [4]) (sy' := ⟨[(3, Pt 4 0), (6, I r108.1), (7, I r108.2.1), (8, I r108.2.2)], [(4, (25, [I n_.Kind, I n_.A, I n_.B]))]⟩) (by kernel_rfl) ?_
    intro a hS
    refine wseq ?_
    refine regP T hS (sp := [35, 41, 46]) (ks := [3, 6, 7, 51]) (bs := [4]) (sy' := ⟨[(3, Pt 4 0), (6, I r108.1), (7, I r108.2.1), (51, B ((((decide (n_.A < 0)) || (decide (n_.A ≥ r108.2.2))) || (decide (n_.B < 0))) || (decide (n_.B ≥ r108.2.1))))], [(4, (25, [I n_.Kind, I n_.A, I n_.B]))]⟩) (by kernel_rfl) ?_
    intro a hS
    refine wcond hS (b := ((((decide (n_.A < 0)) || (decide (n_.A ≥ r108.2.2))) || (decide (n_.B < 0))) || (decide (n_.B ≥ r108.2.1)))) (by kernel_rfl) (fun hb => ?_) (fun hb => ?_)
    · replace hm := hm.1 hb
      refine regP T hS (sp := []) (ks := [4]) (bs := []) (sy' := ⟨[(4, I 0)], []⟩) (by kernel_rfl) ?_
      intro a hS
      refine wret ?_
      exact fin T hS hO (fun c => c) rfl (r := [.int .i64 0]) (by kernel_rfl) (fun χ' hM hC => ⟨0, hm, rfl⟩)
    · replace hm := hm.2 hb
      refine wskip ?_
      refine regP T hS (sp := []) (ks := [4]) (bs := []) (sy' := ⟨[(4, I (IntKind.i64.wrap ((IntKind.i64.wrap ((IntKind.i64.wrap (r108.1 + (IntKind.i64.wrap (n_.A * r108.2.1)))) + n_.B)) + 1)))], []⟩) (by kernel_rfl) ?_
      intro a hS
      refine wret ?_
      exact fin T hS hO (fun c => c) rfl (r := [.int .i64 (IntKind.i64.wrap ((IntKind.i64.wrap ((IntKind.i64.wrap (r108.1 + (IntKind.i64.wrap (n_.A * r108.2.1)))) + n_.B)) + 1))]) (by kernel_rfl) (fun χ' hM hC => ⟨(IntKind.i64.wrap ((IntKind.i64.wrap ((IntKind.i64.wrap (r108.1 + (IntKind.i64.wrap (n_.A * r108.2.1)))) + n_.B)) + 1)), hm, rfl⟩)
theorem C24 (k21 : S21) (k56 : S56) (v : ∀ (s_ : Numbering_Size) (n_ : Numbering_Name), VC24 s_ n_ (fun r => r = numbering_Var s_ n_)) : S24 := by
  intro w χ s_ n_   
  refine (W24 k21 k56 w χ s_ n_   _ (v s_ n_)).mono ?_
  rintro _ _ _ _ ⟨r, rfl, h⟩
  exact h

def S19 : Prop := ∀ (w : World) (χ : Nat → Nat) (ops : Int) (states : Int) (col1 : Nat), Ret Try.prog 19 #[.int .i64 ops, .int .i64 states] xnone w χ (fun w χ' v => ∃ (a1 : Option Addr) (c1 : Nat), v = .slice a1 (ref31_Names ops states).length c1 ∧ OS tRef31_Name 32 w χ' col1 a1 (ref31_Names ops states) c1)
theorem hb19 : hasBody Try.prog 19 = true := by kernel_rfl
/-- replevin/replevinref31.Names -/
theorem W19 (k22 : S22) (w0 : World) (χ0 : Nat → Nat) (ops : Int) (states : Int) (col1 : Nat) (Q : (List Ref31_Name) → Prop) (hm : VC19 ops states Q) :
    Ret Try.prog 19 #[.int .i64 ops, .int .i64 states] xnone w0 χ0 (fun w χ' v => ∃ r, Q r ∧ ∃ (a1 : Option Addr) (c1 : Nat), v = .slice a1 r.length c1 ∧ OS tRef31_Name 32 w χ' col1 a1 r c1) := by
  unfold VC19 at hm
  refine enter Try.func19 rfl (vals := [.int .i64 ops, .int .i64 states]) (by kernel_rfl) ?_
  intro ρ a hS hO hM
  clear hM
  refine regP T hS (sp := []) (ks := [0, 1]) (bs := []) (sy' := ⟨[(0, I ops), (1, I states)], []⟩) (by kernel_rfl) ?_
  intro a hS
  refine regP T hS (sp := []) (ks := [0, 1, 5]) (bs := []) (sy' := ⟨[(0, I ops), (1, I states), (5, V (.slice none 0 0))], []⟩) (by kernel_rfl) ?_
  intro a hS
  refine wseq ?_
  refine regO ?_
  refine opsP T hS 2 (sp := []) (ks := [0, 1, 5, 11, 12]) (bs := []) (sy' := ⟨[(0, I ops), (1, I states), (5, V (.slice none 0 0)), (11, I ops), (12, I states)], []⟩) (by kernel_rfl) ?_
  intro a hS
  refine op1 (call hS (by kernel_rfl) (by kernel_rfl) hb22 (by kernel_rfl) (fun _ _ => rfl) (k22 _ _ ops states) ?_)
  intro v101 a w102 χ103 hE hp hS
  replace hO := hO.mv hE rfl rfl
  clear hE
  obtain ⟨r104, hr⟩ : ∃ r, ref31_Check ops states = r := ⟨_, rfl⟩
  replace hm := hm r104 hr
  rw [hr] at hp
  clear hr
  subst hp
  refine endP T hS (sp := []) (ks := [0, 1, 5, 14]) (bs := []) (sy' := ⟨[(0, I ops), (1, I states), (5, V (.slice none 0 0)), (14, B (r104 != 0))], []⟩) (by kernel_rfl) ?_
  intro a hS
  refine wcond hS (b := (r104 != 0)) (by kernel_rfl) (fun hb => ?_) (fun hb => ?_)
  · replace hm := hm.1 hb
    refine regP T hS (sp := []) (ks := [4]) (bs := []) (sy' := ⟨[(4, V (.slice none 0 0))], []⟩) (by kernel_rfl) ?_
    intro a hS
    refine wret ?_
    exact fin T hS hO (fun c => c) rfl (r := [.slice none 0 0]) (by kernel_rfl) (fun χ' hM hC => ⟨[], hm, none, 0, rfl, OS.nil _ _ _ _ _⟩)
  · replace hm := hm.2 hb
    refine wskip ?_
    refine wcut (fun a w => ∃ (ρ : Nat → Nat) (χ : Nat → Nat) (out_105 : List Ref31_Name) (a106 : Option Addr) (c107 : Nat), VC19_J1 ops states Q out_105 ∧ St Try.f19.ntmps ⟨[(0, I ops), (1, I states), (5, V (.slice a106 out_105.length c107))], []⟩ ρ a w χ ∧ Old w0 χ0 w χ ∧ OS tRef31_Name 32 w χ 1005 a106 out_105 c107) ?_ ?_
    · refine regP T hS (sp := []) (ks := [0, 1, 5, 6]) (bs := []) (sy' := ⟨[(0, I ops), (1, I states), (5, V (.slice none 0 0)), (6, I 0)], []⟩) (by kernel_rfl) ?_
      intro a hS
      refine wblock ?_
      obtain ⟨I4, μ4, hm0, hm⟩ := hm
      refine wloop (σ := (List Ref31_Name) × Int) (fun s a w => ∃ (ρ : Nat → Nat) (χ : Nat → Nat) (a167 : Option Addr) (c168 : Nat), I4 s.1 s.2 ∧ St Try.f19.ntmps ⟨[(0, I ops), (1, I states), (5, V (.slice a167 s.1.length c168)), (6, I s.2)], []⟩ ρ a w χ ∧ Old w0 χ0 w χ ∧ OS tRef31_Name 32 w χ 1005 a167 s.1 c168) (fun s => μ4 s.1 s.2) (⟨[], 0⟩) ?_ ?_
      · exact ⟨ρ, _, none, 0, hm0, hS.sel [0, 1, 5, 6] [] (by kernel_rfl), hO, (OS.nil _ _ _ _ _)⟩
      · rintro ⟨out_166, a_170⟩ a w194 ⟨ρ, χ193, a167, c168, hI, hS, hO, h169⟩
        replace hm := hm out_166 a_170 hI
        clear hI hm0
        refine wseq ?_
        refine regP T hS (sp := []) (ks := [0, 1, 5, 6, 18]) (bs := []) (sy' := ⟨[(0, I ops), (1, I states), (5, V (.slice a167 out_166.length c168)), (6, I a_170), (18, B (decide (a_170 < ops)))], []⟩) (by kernel_rfl) ?_
        intro a hS
        refine wcond hS (b := decide (a_170 < ops)) (by kernel_rfl) (fun hb => ?_) (fun hb => ?_)
        · replace hm := hm.1 hb
          refine wskip ?_
          refine wcut (fun a w => ∃ (ρ : Nat → Nat) (χ : Nat → Nat) (out_171 : List Ref31_Name) (a172 : Option Addr) (c173 : Nat), VC19_J5 I4 μ4 out_166 a_170 out_171 ∧ St Try.f19.ntmps ⟨[(0, I ops), (1, I states), (5, V (.slice a172 out_171.length c173)), (6, I a_170)], []⟩ ρ a w χ ∧ Old w0 χ0 w χ ∧ OS tRef31_Name 32 w χ 1005 a172 out_171 c173) ?_ ?_
          · refine wblock ?_
            refine regP T hS (sp := []) (ks := [0, 1, 5, 6, 7]) (bs := []) (sy' := ⟨[(0, I ops), (1, I states), (5, V (.slice a167 out_166.length c168)), (6, I a_170), (7, I 0)], []⟩) (by kernel_rfl) ?_
            intro a hS
            refine wblock ?_
            obtain ⟨I5, μ5, hm0, hm⟩ := hm
            refine wloop (σ := (List Ref31_Name) × Int) (fun s a w => ∃ (ρ : Nat → Nat) (χ : Nat → Nat) (a176 : Option Addr) (c177 : Nat), I5 s.1 s.2 ∧ St Try.f19.ntmps ⟨[(0, I ops), (1, I states), (5, V (.slice a176 s.1.length c177)), (6, I a_170), (7, I s.2)], []⟩ ρ a w χ ∧ Old w0 χ0 w χ ∧ OS tRef31_Name 32 w χ 1005 a176 s.1 c177) (fun s => μ5 s.1 s.2) (⟨out_166, 0⟩) ?_ ?_
            · exact ⟨ρ, _, a167, c168, hm0, hS.sel [0, 1, 5, 6, 7] [] (by kernel_rfl), hO, h169⟩
            · rintro ⟨out_175, b_179⟩ a w190 ⟨ρ, χ189, a176, c177, hI, hS, hO, h178⟩
              replace hm := hm out_175 b_179 hI
              clear hI hm0
              refine wseq ?_
              refine regP T hS (sp := []) (ks := [0, 1, 5, 6, 7, 23]) (bs := []) (sy' := ⟨[(0, I ops), (1, I states), (5, V (.slice a176 out_175.length c177)), (6, I a_170), (7, I b_179), (23, B (decide (b_179 < ops)))], []⟩) (by kernel_rfl) ?_
              intro a hS
              refine wcond hS (b := decide (b_179 < ops)) (by kernel_rfl) (fun hb => ?_) (fun hb => ?_)
              · replace hm := hm.1 hb
                refine wskip ?_
                refine wseq ?_
                refine wblock ?_
                refine region ?_
                refine opsP T hS 4 (sp := []) (ks := [0, 1, 5, 6, 7, 26, 29]) (bs := []) (sy' := ⟨[(0, I ops), (1, I states), (5, V (.slice a176 out_175.length c177)), (6, I a_170), (7, I b_179), (26, V (.slice a176 out_175.length c177)), (29, V (.agg #[.int .i64 1, .int .i64 a_170, .int .i64 b_179]))], []⟩) (by kernel_rfl) ?_
                intro a hS
                refine op1 (lit (E := 32) (col := 0) (T := tRef31_Name) (vals := [.agg #[.int .i64 1, .int .i64 a_170, .int .i64 b_179]]) (ys := [(⟨1, a_170, b_179⟩ : Ref31_Name)]) T hS (by kernel_rfl) (by kernel_rfl) (by kernel_rfl) (by kernel_rfl) (by exact ⟨rfl, trivial⟩) rfl (by kernel_rfl) (by kernel_rfl) (by kernel_rfl) (by kernel_rfl) ?_)
                intro b180 a w181 χ182 hE h183 hN hS
                clear hN
                replace hO := hO.mv hE rfl rfl
                replace h178 := h178.mv hE rfl rfl
                clear hE
                replace h183 := h183.rs0
                obtain ⟨hq, hm⟩ := hm
                obtain ⟨news, hN⟩ := h183.src
                refine op1 (append (E := 32) (T := tRef31_Name) (col := 1005) (xs := out_175) T hS (by kernel_rfl) (by kernel_rfl) (by kernel_rfl) (by kernel_rfl) h178 hN (by kernel_rfl) (by kernel_rfl) (by kernel_rfl) (by kernel_rfl) hq ?_)
                intro a187 c188 a w184 χ185 hE h186 hS
                clear hq hN
                clear h178
                replace hO := hO.mv hE rfl rfl
                replace h183 := h183.mv hE rfl
                clear hE
                refine endP T hS (sp := []) (ks := [0, 1, 5, 6, 7]) (bs := []) (sy' := ⟨[(0, I ops), (1, I states), (5, V (.slice a187 (out_175 ++ [(⟨1, a_170, b_179⟩ : Ref31_Name)]).length c188)), (6, I a_170), (7, I b_179)], []⟩) (by kernel_rfl) ?_
                intro a hS
                refine region (endP T hS (sp := []) (ks := [0, 1, 5, 6, 7]) (bs := []) (sy' := ⟨[(0, I ops), (1, I states), (5, V (.slice a187 (out_175 ++ [(⟨1, a_170, b_179⟩ : Ref31_Name)]).length c188)), (6, I a_170), (7, I (IntKind.i64.wrap (b_179 + 1)))], []⟩) (by kernel_rfl) ?_)
                intro a hS
                exact ⟨⟨out_175 ++ [(⟨1, a_170, b_179⟩ : Ref31_Name)], IntKind.i64.wrap (b_179 + 1)⟩, ⟨ρ, _, a187, c188, hm.1, hS.sel [0, 1, 5, 6, 7] [] (by kernel_rfl), hO, h186⟩, hm.2⟩
              · replace hm := hm.2 hb
                refine wexit (by rfl) ?_
                exact ⟨ρ, _, out_175, a176, c177, hm, hS.sel [0, 1, 5, 6] [] (by kernel_rfl), hO, h178⟩
          · rintro a w192 ⟨ρ, χ191, out_171, a172, c173, hm, hS, hO, h174⟩
            unfold VC19_J5 at hm
            refine region (endP T hS (sp := []) (ks := [0, 1, 5, 6]) (bs := []) (sy' := ⟨[(0, I ops), (1, I states), (5, V (.slice a172 out_171.length c173)), (6, I (IntKind.i64.wrap (a_170 + 1)))], []⟩) (by kernel_rfl) ?_)
            intro a hS
            exact ⟨⟨out_171, IntKind.i64.wrap (a_170 + 1)⟩, ⟨ρ, _, a172, c173, hm.1, hS.sel [0, 1, 5, 6] [] (by kernel_rfl), hO, h174⟩, hm.2⟩
        · replace hm := hm.2 hb
          refine wexit (by rfl) ?_
          exact ⟨ρ, _, out_166, a167, c168, hm, hS.sel [0, 1, 5] [] (by kernel_rfl), hO, h169⟩
    · rintro a w196 ⟨ρ, χ195, out_105, a106, c107, hm, hS, hO, h108⟩
      unfold VC19_J1 at hm
      refine wcut (fun a w => ∃ (ρ : Nat → Nat) (χ : Nat → Nat) (out_109 : List Ref31_Name) (a110 : Option Addr) (c111 : Nat), VC19_J2 ops states Q out_109 ∧ St Try.f19.ntmps ⟨[(0, I ops), (1, I states), (5, V (.slice a110 out_109.length c111))], []⟩ ρ a w χ ∧ Old w0 χ0 w χ ∧ OS tRef31_Name 32 w χ 1005 a110 out_109 c111) ?_ ?_
      · refine regP T hS (sp := []) (ks := [0, 1, 5, 8]) (bs := []) (sy' := ⟨[(0, I ops), (1, I states), (5, V (.slice a106 out_105.length c107)), (8, I 0)], []⟩) (by kernel_rfl) ?_
        intro a hS
        refine wblock ?_
        obtain ⟨I3, μ3, hm0, hm⟩ := hm
        refine wloop (σ := (List Ref31_Name) × Int) (fun s a w => ∃ (ρ : Nat → Nat) (χ : Nat → Nat) (a149 : Option Addr) (c150 : Nat), I3 s.1 s.2 ∧ St Try.f19.ntmps ⟨[(0, I ops), (1, I states), (5, V (.slice a149 s.1.length c150)), (8, I s.2)], []⟩ ρ a w χ ∧ Old w0 χ0 w χ ∧ OS tRef31_Name 32 w χ 1005 a149 s.1 c150) (fun s => μ3 s.1 s.2) (⟨out_105, 0⟩) ?_ ?_
        · exact ⟨ρ, _, a106, c107, hm0, hS.sel [0, 1, 5, 8] [] (by kernel_rfl), hO, h108⟩
        · rintro ⟨out_148, a_152⟩ a w163 ⟨ρ, χ162, a149, c150, hI, hS, hO, h151⟩
          replace hm := hm out_148 a_152 hI
          clear hI hm0
          refine wseq ?_
          refine regP T hS (sp := []) (ks := [0, 1, 5, 8, 34]) (bs := []) (sy' := ⟨[(0, I ops), (1, I states), (5, V (.slice a149 out_148.length c150)), (8, I a_152), (34, B (decide (a_152 < ops)))], []⟩) (by kernel_rfl) ?_
          intro a hS
          refine wcond hS (b := decide (a_152 < ops)) (by kernel_rfl) (fun hb => ?_) (fun hb => ?_)
          · replace hm := hm.1 hb
            refine wskip ?_
            refine wseq ?_
            refine wblock ?_
            refine region ?_
            refine opsP T hS 3 (sp := []) (ks := [0, 1, 5, 8, 37, 39]) (bs := []) (sy' := ⟨[(0, I ops), (1, I states), (5, V (.slice a149 out_148.length c150)), (8, I a_152), (37, V (.slice a149 out_148.length c150)), (39, V (.agg #[.int .i64 2, .int .i64 a_152, .int .i64 0]))], []⟩) (by kernel_rfl) ?_
            intro a hS
            refine op1 (lit (E := 32) (col := 0) (T := tRef31_Name) (vals := [.agg #[.int .i64 2, .int .i64 a_152, .int .i64 0]]) (ys := [(⟨2, a_152, 0⟩ : Ref31_Name)]) T hS (by kernel_rfl) (by kernel_rfl) (by kernel_rfl) (by kernel_rfl) (by exact ⟨rfl, trivial⟩) rfl (by kernel_rfl) (by kernel_rfl) (by kernel_rfl) (by kernel_rfl) ?_)
            intro b153 a w154 χ155 hE h156 hN hS
            clear hN
            replace hO := hO.mv hE rfl rfl
            replace h151 := h151.mv hE rfl rfl
            clear hE
            replace h156 := h156.rs0
            obtain ⟨hq, hm⟩ := hm
            obtain ⟨news, hN⟩ := h156.src
            refine op1 (append (E := 32) (T := tRef31_Name) (col := 1005) (xs := out_148) T hS (by kernel_rfl) (by kernel_rfl) (by kernel_rfl) (by kernel_rfl) h151 hN (by kernel_rfl) (by kernel_rfl) (by kernel_rfl) (by kernel_rfl) hq ?_)
            intro a160 c161 a w157 χ158 hE h159 hS
            clear hq hN
            clear h151
            replace hO := hO.mv hE rfl rfl
            replace h156 := h156.mv hE rfl
            clear hE
            refine endP T hS (sp := []) (ks := [0, 1, 5, 8]) (bs := []) (sy' := ⟨[(0, I ops), (1, I states), (5, V (.slice a160 (out_148 ++ [(⟨2, a_152, 0⟩ : Ref31_Name)]).length c161)), (8, I a_152)], []⟩) (by kernel_rfl) ?_
            intro a hS
            refine region (endP T hS (sp := []) (ks := [0, 1, 5, 8]) (bs := []) (sy' := ⟨[(0, I ops), (1, I states), (5, V (.slice a160 (out_148 ++ [(⟨2, a_152, 0⟩ : Ref31_Name)]).length c161)), (8, I (IntKind.i64.wrap (a_152 + 1)))], []⟩) (by kernel_rfl) ?_)
            intro a hS
            exact ⟨⟨out_148 ++ [(⟨2, a_152, 0⟩ : Ref31_Name)], IntKind.i64.wrap (a_152 + 1)⟩, ⟨ρ, _, a160, c161, hm.1, hS.sel [0, 1, 5, 8] [] (by kernel_rfl), hO, h159⟩, hm.2⟩
          · replace hm := hm.2 hb
            refine wexit (by rfl) ?_
            exact ⟨ρ, _, out_148, a149, c150, hm, hS.sel [0, 1, 5] [] (by kernel_rfl), hO, h151⟩
      · rintro a w165 ⟨ρ, χ164, out_109, a110, c111, hm, hS, hO, h112⟩
        unfold VC19_J2 at hm
        refine wcut (fun a w => ∃ (ρ : Nat → Nat) (χ : Nat → Nat) (out_113 : List Ref31_Name) (a114 : Option Addr) (c115 : Nat), VC19_J3 Q out_113 ∧ St Try.f19.ntmps ⟨[(5, V (.slice a114 out_113.length c115))], []⟩ ρ a w χ ∧ Old w0 χ0 w χ ∧ OS tRef31_Name 32 w χ 1005 a114 out_113 c115) ?_ ?_
        · refine regP T hS (sp := []) (ks := [0, 1, 5, 9]) (bs := []) (sy' := ⟨[(0, I ops), (1, I states), (5, V (.slice a110 out_109.length c111)), (9, I 0)], []⟩) (by kernel_rfl) ?_
          intro a hS
          refine wblock ?_
          obtain ⟨I1, μ1, hm0, hm⟩ := hm
          refine wloop (σ := (List Ref31_Name) × Int) (fun s a w => ∃ (ρ : Nat → Nat) (χ : Nat → Nat) (a118 : Option Addr) (c119 : Nat), I1 s.1 s.2 ∧ St Try.f19.ntmps ⟨[(0, I ops), (1, I states), (5, V (.slice a118 s.1.length c119)), (9, I s.2)], []⟩ ρ a w χ ∧ Old w0 χ0 w χ ∧ OS tRef31_Name 32 w χ 1005 a118 s.1 c119) (fun s => μ1 s.1 s.2) (⟨out_109, 0⟩) ?_ ?_
          · exact ⟨ρ, _, a110, c111, hm0, hS.sel [0, 1, 5, 9] [] (by kernel_rfl), hO, h112⟩
          · rintro ⟨out_117, a_121⟩ a w145 ⟨ρ, χ144, a118, c119, hI, hS, hO, h120⟩
            replace hm := hm out_117 a_121 hI
            clear hI hm0
            refine wseq ?_
            refine regP T hS (sp := []) (ks := [0, 1, 5, 9, 44]) (bs := []) (sy' := ⟨[(0, I ops), (1, I states), (5, V (.slice a118 out_117.length c119)), (9, I a_121), (44, B (decide (a_121 ≤ ops)))], []⟩) (by kernel_rfl) ?_
            intro a hS
            refine wcond hS (b := decide (a_121 ≤ ops)) (by kernel_rfl) (fun hb => ?_) (fun hb => ?_)
            · replace hm := hm.1 hb
              refine wskip ?_
              refine wcut (fun a w => ∃ (ρ : Nat → Nat) (χ : Nat → Nat) (out_122 : List Ref31_Name) (a123 : Option Addr) (c124 : Nat), VC19_J4 I1 μ1 out_117 a_121 out_122 ∧ St Try.f19.ntmps ⟨[(0, I ops), (1, I states), (5, V (.slice a123 out_122.length c124)), (9, I a_121)], []⟩ ρ a w χ ∧ Old w0 χ0 w χ ∧ OS tRef31_Name 32 w χ 1005 a123 out_122 c124) ?_ ?_
              · refine wblock ?_
                refine regP T hS (sp := []) (ks := [0, 1, 5, 9, 10]) (bs := []) (sy' := ⟨[(0, I ops), (1, I states), (5, V (.slice a118 out_117.length c119)), (9, I a_121), (10, I 0)], []⟩) (by kernel_rfl) ?_
                intro a hS
                refine wblock ?_
                obtain ⟨I2, μ2, hm0, hm⟩ := hm
                refine wloop (σ := (List Ref31_Name) × Int) (fun s a w => ∃ (ρ : Nat → Nat) (χ : Nat → Nat) (a127 : Option Addr) (c128 : Nat), I2 s.1 s.2 ∧ St Try.f19.ntmps ⟨[(0, I ops), (1, I states), (5, V (.slice a127 s.1.length c128)), (9, I a_121), (10, I s.2)], []⟩ ρ a w χ ∧ Old w0 χ0 w χ ∧ OS tRef31_Name 32 w χ 1005 a127 s.1 c128) (fun s => μ2 s.1 s.2) (⟨out_117, 0⟩) ?_ ?_
                · exact ⟨ρ, _, a118, c119, hm0, hS.sel [0, 1, 5, 9, 10] [] (by kernel_rfl), hO, h120⟩
                · rintro ⟨out_126, b_130⟩ a w141 ⟨ρ, χ140, a127, c128, hI, hS, hO, h129⟩
                  replace hm := hm out_126 b_130 hI
                  clear hI hm0
                  refine wseq ?_
                  refine regP T hS (sp := []) (ks := [0, 1, 5, 9, 10, 49]) (bs := []) (sy' := ⟨[(0, I ops), (1, I states), (5, V (.slice a127 out_126.length c128)), (9, I a_121), (10, I b_130), (49, B (decide (b_130 < states)))], []⟩) (by kernel_rfl) ?_
                  intro a hS
                  refine wcond hS (b := decide (b_130 < states)) (by kernel_rfl) (fun hb => ?_) (fun hb => ?_)
                  · replace hm := hm.1 hb
                    refine wskip ?_
                    refine wseq ?_
                    refine wblock ?_
                    refine region ?_
                    refine opsP T hS 4 (sp := []) (ks := [0, 1, 5, 9, 10, 52, 55]) (bs := []) (sy' := ⟨[(0, I ops), (1, I states), (5, V (.slice a127 out_126.length c128)), (9, I a_121), (10, I b_130), (52, V (.slice a127 out_126.length c128)), (55, V (.agg #[.int .i64 3, .int .i64 a_121, .int .i64 b_130]))], []⟩) (by kernel_rfl) ?_
                    intro a hS
                    refine op1 (lit (E := 32) (col := 0) (T := tRef31_Name) (vals := [.agg #[.int .i64 3, .int .i64 a_121, .int .i64 b_130]]) (ys := [(⟨3, a_121, b_130⟩ : Ref31_Name)]) T hS (by kernel_rfl) (by kernel_rfl) (by kernel_rfl) (by kernel_rfl) (by exact ⟨rfl, trivial⟩) rfl (by kernel_rfl) (by kernel_rfl) (by kernel_rfl) (by kernel_rfl) ?_)
                    intro b131 a w132 χ133 hE h134 hN hS
                    clear hN
                    replace hO := hO.mv hE rfl rfl
                    replace h129 := h129.mv hE rfl rfl
                    clear hE
                    replace h134 := h134.rs0
                    obtain ⟨hq, hm⟩ := hm
                    obtain ⟨news, hN⟩ := h134.src
                    refine op1 (append (E := 32) (T := tRef31_Name) (col := 1005) (xs := out_126) T hS (by kernel_rfl) (by kernel_rfl) (by kernel_rfl) (by kernel_rfl) h129 hN (by kernel_rfl) (by kernel_rfl) (by kernel_rfl) (by kernel_rfl) hq ?_)
                    intro a138 c139 a w135 χ136 hE h137 hS
                    clear hq hN
                    clear h129
                    replace hO := hO.mv hE rfl rfl
                    replace h134 := h134.mv hE rfl
                    clear hE
                    refine endP T hS (sp := []) (ks := [0, 1, 5, 9, 10]) (bs := []) (sy' := ⟨[(0, I ops), (1, I states), (5, V (.slice a138 (out_126 ++ [(⟨3, a_121, b_130⟩ : Ref31_Name)]).length c139)), (9, I a_121), (10, I b_130)], []⟩) (by kernel_rfl) ?_
                    intro a hS
                    refine region (endP T hS (sp := []) (ks := [0, 1, 5, 9, 10]) (bs := []) (sy' := ⟨[(0, I ops), (1, I states), (5, V (.slice a138 (out_126 ++ [(⟨3, a_121, b_130⟩ : Ref31_Name)]).length c139)), (9, I a_121), (10, I (IntKind.i64.wrap (b_130 + 1)))], []⟩) (by kernel_rfl) ?_)
                    intro a hS
                    exact ⟨⟨out_126 ++ [(⟨3, a_121, b_130⟩ : Ref31_Name)], IntKind.i64.wrap (b_130 + 1)⟩, ⟨ρ, _, a138, c139, hm.1, hS.sel [0, 1, 5, 9, 10] [] (by kernel_rfl), hO, h137⟩, hm.2⟩
                  · replace hm := hm.2 hb
                    refine wexit (by rfl) ?_
                    exact ⟨ρ, _, out_126, a127, c128, hm, hS.sel [0, 1, 5, 9] [] (by kernel_rfl), hO, h129⟩
              · rintro a w143 ⟨ρ, χ142, out_122, a123, c124, hm, hS, hO, h125⟩
                unfold VC19_J4 at hm
                refine region (endP T hS (sp := []) (ks := [0, 1, 5, 9]) (bs := []) (sy' := ⟨[(0, I ops), (1, I states), (5, V (.slice a123 out_122.length c124)), (9, I (IntKind.i64.wrap (a_121 + 1)))], []⟩) (by kernel_rfl) ?_)
                intro a hS
                exact ⟨⟨out_122, IntKind.i64.wrap (a_121 + 1)⟩, ⟨ρ, _, a123, c124, hm.1, hS.sel [0, 1, 5, 9] [] (by kernel_rfl), hO, h125⟩, hm.2⟩
            · replace hm := hm.2 hb
              refine wexit (by rfl) ?_
              exact ⟨ρ, _, out_117, a118, c119, hm, hS.sel [5] [] (by kernel_rfl), hO, h120⟩
        · rintro a w147 ⟨ρ, χ146, out_113, a114, c115, hm, hS, hO, h116⟩
          unfold VC19_J3 at hm
          refine regP T hS (sp := []) (ks := [4]) (bs := []) (sy' := ⟨[(4, V (.slice a114 out_113.length c115))], []⟩) (by kernel_rfl) ?_
          intro a hS
          refine wret ?_
          exact fin T hS hO (fun c => (bif Nat.beq c 1005 then col1 else c)) rfl (r := [.slice a114 out_113.length c115]) (by kernel_rfl) (fun χ' hM hC => ⟨out_113, hm, a114, c115, rfl, (OS.out (f := fun c => (bif Nat.beq c 1005 then col1 else c)) h116 hM hC (by kernel_rfl))⟩)
theorem C19 (k22 : S22) (v : ∀ (ops : Int) (states : Int), VC19 ops states (fun r => r = ref31_Names ops states)) : S19 := by
  intro w χ ops states  col1 
  refine (W19 k22 w χ ops states  col1 _ (v ops states)).mono ?_
  rintro _ _ _ _ ⟨r, rfl, h⟩
  exact h

def S25 : Prop := ∀ (w : World) (χ : Nat → Nat) (ops : Int) (states : Int) (n_ : Ref31_Name), Ret Try.prog 25 #[.int .i64 ops, .int .i64 states, .agg #[.int .i64 n_.Kind, .int .i64 n_.A, .int .i64 n_.B]] xnone w χ (fun w χ' v => v = .int .i64 (ref31_Var ops states n_))
theorem hb25 : hasBody Try.prog 25 = true := by kernel_rfl
/-- replevin/replevinref31.Var -/
theorem W25 (k19 : S19) (w0 : World) (χ0 : Nat → Nat) (ops : Int) (states : Int) (n_ : Ref31_Name) (Q : Int → Prop) (hm : VC25 ops states n_ Q) :
    Ret Try.prog 25 #[.int .i64 ops, .int .i64 states, .agg #[.int .i64 n_.Kind, .int .i64 n_.A, .int .i64 n_.B]] xnone w0 χ0 (fun w χ' v => ∃ r, Q r ∧ v = .int .i64 r) := by
  unfold VC25 at hm
  refine enter Try.func25 rfl (vals := [.int .i64 ops, .int .i64 states, .agg #[.int .i64 n_.Kind, .int .i64 n_.A, .int .i64 n_.B]]) (by kernel_rfl) ?_
  intro ρ a hS hO hM
  clear hM
  refine regM T hS (sp := []) (ks := [0, 1, 5]) (bs := [6]) (sy' := ⟨[(0, I ops), (1, I states), (5, Pt 6 0)], [(6, (32, [I n_.Kind, I n_.A, I n_.B]))]⟩) (by kernel_rfl) ?_
  intro ρ a w121 χ122 hS hE
  replace hO := hO.mv hE rfl rfl
  clear hE
  refine regO ?_
  refine opsP T hS 2 (sp := []) (ks := [5, 9, 10]) (bs := [6]) (sy' := ⟨[(5, Pt 6 0), (9, I ops), (10, I states)], [(6, (32, [I n_.Kind, I n_.A, I n_.B]))]⟩) (by kernel_rfl) ?_
  intro a hS
  refine op1 (call hS (by kernel_rfl) (by kernel_rfl) hb19 (by kernel_rfl) (fun _ _ => rfl) (k19 _ _ ops states 0) ?_)
  intro v101 a w102 χ103 hE hp hS
  replace hO := hO.mv hE rfl rfl
  clear hE
  obtain ⟨a105, c106, hp, h107⟩ := hp
  obtain ⟨r104, hr⟩ : ∃ r, ref31_Names ops states = r := ⟨_, rfl⟩
  replace hm := hm r104 hr
  rw [hr] at hp h107
  clear hr
  subst hp
  replace h107 := h107.rs0
  replace hm := hm (h107.sm (by kernel_rfl))
  refine endP T hS (sp := []) (ks := [5, 7]) (bs := [6]) (sy' := ⟨[(5, Pt 6 0), (7, V (.slice a105 r104.length c106))], [(6, (32, [I n_.Kind, I n_.A, I n_.B]))]⟩) (by kernel_rfl) ?_
  intro a hS
  refine wcut (fun a w => ∃ (ρ : Nat → Nat) (χ : Nat → Nat), VC25_J1 Q ∧ St Try.f25.ntmps ⟨[], []⟩ ρ a w χ ∧ Old w0 χ0 w χ) ?_ ?_
  · refine regP T hS (sp := []) (ks := [5, 7, 8]) (bs := [6]) (sy' := ⟨[(5, Pt 6 0), (7, V (.slice a105 r104.length c106)), (8, I 0)], [(6, (32, [I n_.Kind, I n_.A, I n_.B]))]⟩) (by kernel_rfl) ?_
    intro a hS
    refine wblock ?_
    obtain ⟨I1, μ1, hm0, hm⟩ := hm
    refine wloop (σ := (List Ref31_Name) × Int) (fun s a w => ∃ (ρ : Nat → Nat) (χ : Nat → Nat) (a109 : Option Addr) (c110 : Nat), I1 s.1 s.2 ∧ St Try.f25.ntmps ⟨[(5, Pt 6 0), (7, V (.slice a109 s.1.length c110)), (8, I s.2)], [(6, (32, [I n_.Kind, I n_.A, I n_.B]))]⟩ ρ a w χ ∧ Old w0 χ0 w χ ∧ RS tRef31_Name w χ a109 s.1 c110) (fun s => μ1 s.1 s.2) (⟨r104, 0⟩) ?_ ?_
    · exact ⟨ρ, _, a105, c106, hm0, hS.sel [5, 7, 8] [6] (by kernel_rfl), hO, h107⟩
    · rintro ⟨l_108, i_112⟩ a w118 ⟨ρ, χ117, a109, c110, hI, hS, hO, h111⟩
      replace hm := hm l_108 i_112 hI
      clear hI hm0
      refine wseq ?_
      refine regP T hS (sp := []) (ks := [5, 7, 8, 15]) (bs := [6]) (sy' := ⟨[(5, Pt 6 0), (7, V (.slice a109 l_108.length c110)), (8, I i_112), (15, B (decide (i_112 < ((l_108.length : Nat) : Int))))], [(6, (32, [I n_.Kind, I n_.A, I n_.B]))]⟩) (by kernel_rfl) ?_
      intro a hS
      refine wcond hS (b := decide (i_112 < ((l_108.length : Nat) : Int))) (by kernel_rfl) (fun hb => ?_) (fun hb => ?_)
      · replace hm := hm.1 hb
        refine wskip ?_
        refine wseq ?_
        refine wblock ?_
        refine drawnS [6] mixed hS ?_
        intro w113 hS hE hD hH
        replace hO := hO.mv hE rfl rfl
        replace h111 := h111.mv hE rfl
        clear hE
        refine take T [0, 1, 4] [6] [5, 7, 8, 18, 19, 22] hS (by kernel_rfl) (by kernel_rfl) (by kernel_rfl) hH (listed' := #[true, true, false, false, true, false]) (fuel := 3) (sy' := ⟨[(5, Pt 6 0), (7, V (.slice a109 l_108.length c110)), (8, I i_112), (18, V (.slice a109 l_108.length c110)), (19, I i_112), (22, V (.agg #[.int .i64 n_.Kind, .int .i64 n_.A, .int .i64 n_.B]))], [(6, (32, [I n_.Kind, I n_.A, I n_.B]))]⟩) (by kernel_rfl) (by rfl) ?_
        intro a hS
        obtain ⟨hq, hm⟩ := hm
        refine dindex (e := 32) (k := .i64) T 2 hS (by kernel_rfl) (by kernel_rfl) (by kernel_rfl) (by rfl) (by kernel_rfl) hH (by kernel_rfl) (by kernel_rfl) h111 (by kernel_rfl) (by kernel_rfl) hq.1 hq.2 ?_
        intro A114 a h115 hS
        clear hq
        have h115b := h115.here
        refine dloadA T 3 hS (by kernel_rfl) (by kernel_rfl) (by kernel_rfl) (by rfl) (by kernel_rfl) hH (by kernel_rfl) h115 h115b (by kernel_rfl) (by kernel_rfl) ?_
        intro v116 a hv hS
        subst hv
        refine dstructEq (op := .eql) (xs := [.int .i64 ((gi l_108 i_112).Kind), .int .i64 ((gi l_108 i_112).A), .int .i64 ((gi l_108 i_112).B)]) (ys := [.int .i64 n_.Kind, .int .i64 n_.A, .int .i64 n_.B]) (r := (((gi l_108 i_112).Kind) == n_.Kind && (((gi l_108 i_112).A) == n_.A && (((gi l_108 i_112).B) == n_.B && true)))) (b := (((gi l_108 i_112).Kind) == n_.Kind && (((gi l_108 i_112).A) == n_.A && (((gi l_108 i_112).B) == n_.B && true)))) 5 T hS (by kernel_rfl) (by kernel_rfl) (by kernel_rfl) (by rfl) (by kernel_rfl) hH (by kernel_rfl) (by kernel_rfl) (by kernel_rfl) (by kernel_rfl) (by kernel_rfl) (by kernel_rfl) ?_
        intro a hS
        refine drawnDone (by kernel_rfl) ?_
        clear hD hH
        replace hS := hS.sel [5, 7, 8, 23] [6] (sy' := ⟨[(5, Pt 6 0), (7, V (.slice a109 l_108.length c110)), (8, I i_112), (23, B (((gi l_108 i_112).Kind) == n_.Kind && (((gi l_108 i_112).A) == n_.A && (((gi l_108 i_112).B) == n_.B && true))))], [(6, (32, [I n_.Kind, I n_.A, I n_.B]))]⟩) (by kernel_rfl)
        refine wcond hS (b := (((gi l_108 i_112).Kind) == n_.Kind && (((gi l_108 i_112).A) == n_.A && (((gi l_108 i_112).B) == n_.B && true)))) (by kernel_rfl) (fun hb => ?_) (fun hb => ?_)
        · replace hm := hm.1 hb
          refine regP T hS (sp := []) (ks := [6]) (bs := []) (sy' := ⟨[(6, I (IntKind.i64.wrap (i_112 + 1)))], []⟩) (by kernel_rfl) ?_
          intro a hS
          refine wret ?_
          exact fin T hS hO (fun c => c) rfl (r := [.int .i64 (IntKind.i64.wrap (i_112 + 1))]) (by kernel_rfl) (fun χ' hM hC => ⟨(IntKind.i64.wrap (i_112 + 1)), hm, rfl⟩)
        · replace hm := hm.2 hb
          refine wskip ?_
          refine region (endP T hS (sp := []) (ks := [5, 7, 8]) (bs := [6]) (sy' := ⟨[(5, Pt 6 0), (7, V (.slice a109 l_108.length c110)), (8, I (IntKind.i64.wrap (i_112 + 1)))], [(6, (32, [I n_.Kind, I n_.A, I n_.B]))]⟩) (by kernel_rfl) ?_)
          intro a hS
          exact ⟨⟨l_108, IntKind.i64.wrap (i_112 + 1)⟩, ⟨ρ, _, a109, c110, hm.1, hS.sel [5, 7, 8] [6] (by kernel_rfl), hO, h111⟩, hm.2⟩
      · replace hm := hm.2 hb
        refine wexit (by rfl) ?_
        exact ⟨ρ, _, hm, hS.sel [] [] (by kernel_rfl), hO⟩
  · rintro a w120 ⟨ρ, χ119, hm, hS, hO⟩
    unfold VC25_J1 at hm
    refine regP T hS (sp := []) (ks := [6]) (bs := []) (sy' := ⟨[(6, I 0)], []⟩) (by kernel_rfl) ?_
    intro a hS
    refine wret ?_
    exact fin T hS hO (fun c => c) rfl (r := [.int .i64 0]) (by kernel_rfl) (fun χ' hM hC => ⟨0, hm, rfl⟩)
theorem C25 (k19 : S19) (v : ∀ (ops : Int) (states : Int) (n_ : Ref31_Name), VC25 ops states n_ (fun r => r = ref31_Var ops states n_)) : S25 := by
  intro w χ ops states n_   
  refine (W25 k19 w χ ops states n_   _ (v ops states n_)).mono ?_
  rintro _ _ _ _ ⟨r, rfl, h⟩
  exact h

def S20 : Prop := ∀ (w : World) (χ : Nat → Nat) (s_ : Numbering_Size) (v_ : Int), Ret Try.prog 20 #[.agg #[.int .i64 s_.Ops, .int .i64 s_.States], .int .i64 v_] xnone w χ (fun w χ' v => v = .tuple #[.agg #[.int .i64 (((numbering_Of s_ v_).1).Kind), .int .i64 (((numbering_Of s_ v_).1).A), .int .i64 (((numbering_Of s_ v_).1).B)], .bool ((numbering_Of s_ v_).2)])
theorem hb20 : hasBody Try.prog 20 = true := by kernel_rfl
/-- replevin/numbering.Of -/
theorem W20 (k23 : S23) (k56 : S56) (w0 : World) (χ0 : Nat → Nat) (s_ : Numbering_Size) (v_ : Int) (Q : Numbering_Name × Bool → Prop) (hm : VC20 s_ v_ Q) :
    Ret Try.prog 20 #[.agg #[.int .i64 s_.Ops, .int .i64 s_.States], .int .i64 v_] xnone w0 χ0 (fun w χ' v => ∃ r, Q r ∧ v = .tuple #[.agg #[.int .i64 r.1.Kind, .int .i64 r.1.A, .int .i64 r.1.B], .bool r.2]) := by
  unfold VC20 at hm
  refine enter Try.func20 rfl (vals := [.agg #[.int .i64 s_.Ops, .int .i64 s_.States], .int .i64 v_]) (by kernel_rfl) ?_
  intro ρ a hS hO hM
  clear hM
  refine regM T hS (sp := []) (ks := [1, 2, 4]) (bs := [3, 5]) (sy' := ⟨[(1, I v_), (2, Pt 3 0), (4, Pt 5 0)], [(3, (23, [I s_.Ops, I s_.States])), (5, (25, [I 0, I 0, I 0]))]⟩) (by kernel_rfl) ?_
  intro ρ a w130 χ131 hS hE
  replace hO := hO.mv hE rfl rfl
  clear hE
  refine wseq ?_
  refine wcut (fun a w => ∃ (ρ : Nat → Nat) (χ : Nat → Nat) (x_101 : Bool), VC20_J1 s_ v_ Q x_101 ∧ St Try.f20.ntmps ⟨[(1, I v_), (2, Pt 3 0), (4, Pt 5 0), (20, B x_101)], [(3, (23, [I s_.Ops, I s_.States])), (5, (25, [I 0, I 0, I 0]))]⟩ ρ a w χ ∧ Old w0 χ0 w χ) ?_ ?_
  · refine region ?_
    refine opsP T hS 3 (sp := []) (ks := [1, 2, 4, 15]) (bs := [3, 5]) (sy' := ⟨[(1, I v_), (2, Pt 3 0), (4, Pt 5 0), (15, B (decide (v_ < 1)))], [(3, (23, [I s_.Ops, I s_.States])), (5, (25, [I 0, I 0, I 0]))]⟩) (by kernel_rfl) ?_
    intro a hS
    rcases Bool.eq_false_or_eq_true (decide (v_ < 1)) with hb | hb
    · replace hS := hS.lit (t := 15) (by kernel_rfl) hb
      replace hm := hm.1 hb
      refine endP T hS (sp := []) (ks := [1, 2, 4, 20]) (bs := [3, 5]) (sy' := ⟨[(1, I v_), (2, Pt 3 0), (4, Pt 5 0), (20, B true)], [(3, (23, [I s_.Ops, I s_.States])), (5, (25, [I 0, I 0, I 0]))]⟩) (by kernel_rfl) ?_
      intro a hS
      exact ⟨ρ, _, true, hm, hS.sel [1, 2, 4, 20] [3, 5] (by kernel_rfl), hO⟩
    · replace hS := hS.lit (t := 15) (by kernel_rfl) hb
      replace hm := hm.2 hb
      refine opsP T hS 2 (sp := []) (ks := [1, 2, 4, 15, 16, 17]) (bs := [3, 5]) (sy' := ⟨[(1, I v_), (2, Pt 3 0), (4, Pt 5 0), (15, B false), (16, I v_), (17, V (.agg #[.int .i64 s_.Ops, .int .i64 s_.States]))], [(3, (23, [I s_.Ops, I s_.States])), (5, (25, [I 0, I 0, I 0]))]⟩) (by kernel_rfl) ?_
      intro a hS
      refine op1 (call hS (by kernel_rfl) (by kernel_rfl) hb23 (by kernel_rfl) (fun _ _ => rfl) (k23 _ _ s_) ?_)
      intro v124 a w125 χ126 hE hp hS
      replace hO := hO.mv hE rfl rfl
      clear hE
      obtain ⟨r127, hr⟩ : ∃ r, numbering_Vars s_ = r := ⟨_, rfl⟩
      replace hm := hm r127 hr
      rw [hr] at hp
      clear hr
      subst hp
      refine endP T hS (sp := []) (ks := [1, 2, 4, 20]) (bs := [3, 5]) (sy' := ⟨[(1, I v_), (2, Pt 3 0), (4, Pt 5 0), (20, B (decide (v_ > r127)))], [(3, (23, [I s_.Ops, I s_.States])), (5, (25, [I 0, I 0, I 0]))]⟩) (by kernel_rfl) ?_
      intro a hS
      exact ⟨ρ, _, decide (v_ > r127), hm, hS.sel [1, 2, 4, 20] [3, 5] (by kernel_rfl), hO⟩
  · rintro a w129 ⟨ρ, χ128, x_101, hm, hS, hO⟩
    unfold VC20_J1 at hm
    refine wcond hS (b := x_101) (by kernel_rfl) (fun hb => ?_) (fun hb => ?_)
    · replace hm := hm.1 hb
      refine regM T hS (sp := []) (ks := [4, 5]) (bs := [5]) (sy' := ⟨[(4, Pt 5 0), (5, B false)], [(5, (25, [I 0, I 0, I 0]))]⟩) (by kernel_rfl) ?_
      intro ρ a w102 χ103 hS hE
      replace hO := hO.mv hE rfl rfl
      clear hE
      refine wret ?_
      exact fin T hS hO (fun c => c) rfl (r := [.agg #[.int .i64 0, .int .i64 0, .int .i64 0], .bool false]) (by kernel_rfl) (fun χ' hM hC => ⟨((⟨0, 0, 0⟩ : Numbering_Name), false), hm, rfl⟩)
    · replace hm := hm.2 hb
      refine wskip ?_
      refine wcut (fun a w => ∃ (ρ : Nat → Nat) (χ : Nat → Nat), VC20_J2 Q ∧ St Try.f20.ntmps ⟨[(4, Pt 5 0)], [(5, (25, [I 0, I 0, I 0]))]⟩ ρ a w χ ∧ Old w0 χ0 w χ) ?_ ?_
      · refine regP T hS (sp := []) (ks := [1, 2, 4, 22, 23]) (bs := [3, 5]) (sy' := ⟨[(1, I v_), (2, Pt 3 0), (4, Pt 5 0), (22, V (.agg #[.int .i64 3, .int .i64 2, .int .i64 1])), (23, I 0)], [(3, (23, [I s_.Ops, I s_.States])), (5, (25, [I 0, I 0, I 0]))]⟩) (by kernel_rfl) ?_
        intro a hS
        refine wblock ?_
        obtain ⟨I1, μ1, hm0, hm⟩ := hm
        refine wloop (σ := Int) (fun s a w => ∃ (ρ : Nat → Nat) (χ : Nat → Nat), I1 s ∧ St Try.f20.ntmps ⟨[(1, I v_), (2, Pt 3 0), (4, Pt 5 0), (22, V (.agg #[.int .i64 3, .int .i64 2, .int .i64 1])), (23, I s)], [(3, (23, [I s_.Ops, I s_.States])), (5, (25, [I 0, I 0, I 0]))]⟩ ρ a w χ ∧ Old w0 χ0 w χ) (fun s => μ1 s) (0) ?_ ?_
        · exact ⟨ρ, _, hm0, hS.sel [1, 2, 4, 22, 23] [3, 5] (by kernel_rfl), hO⟩
        · rintro x_106 a w121 ⟨ρ, χ120, hI, hS, hO⟩
          replace hm := hm x_106 hI
          clear hI hm0
          refine regP T hS (sp := []) (ks := [1, 2, 4, 22, 23, 24]) (bs := [3, 5]) (sy' := ⟨[(1, I v_), (2, Pt 3 0), (4, Pt 5 0), (22, V (.agg #[.int .i64 3, .int .i64 2, .int .i64 1])), (23, I x_106), (24, B (decide (x_106 < 3)))], [(3, (23, [I s_.Ops, I s_.States])), (5, (25, [I 0, I 0, I 0]))]⟩) (by kernel_rfl) ?_
          intro a hS
          refine wseq ?_
          refine wcond hS (b := decide (x_106 < 3)) (by kernel_rfl) (fun hb => ?_) (fun hb => ?_)
          · replace hm := hm.1 hb
            refine wskip ?_
            refine wseq ?_
            refine wblock ?_
            refine regO ?_
            obtain ⟨hq, hm⟩ := hm
            refine op1 (aindex (m := 3) (e := 3) (k0 := .i64) (k := .i64) (cs := [.int .i64 3, .int .i64 2, .int .i64 1]) (xs := ([3, 2, 1] : List Int)) T hS (by kernel_rfl) (by kernel_rfl) (by kernel_rfl) (by kernel_rfl) (by kernel_rfl) (by kernel_rfl) (by kernel_rfl) hq.1 hq.2 (by kernel_rfl) ?_)
            intro a hS
            clear hq
            refine endP T hS (sp := []) (ks := [1, 2, 4, 7, 22, 23]) (bs := [3, 5]) (sy' := ⟨[(1, I v_), (2, Pt 3 0), (4, Pt 5 0), (7, I (gi ([3, 2, 1] : List Int) x_106)), (22, V (.agg #[.int .i64 3, .int .i64 2, .int .i64 1])), (23, I x_106)], [(3, (23, [I s_.Ops, I s_.States])), (5, (25, [I 0, I 0, I 0]))]⟩) (by kernel_rfl) ?_
            intro a hS
            refine regO ?_
            refine opsP T hS 2 (sp := []) (ks := [1, 2, 4, 7, 22, 23, 27, 28]) (bs := [3, 5]) (sy' := ⟨[(1, I v_), (2, Pt 3 0), (4, Pt 5 0), (7, I (gi ([3, 2, 1] : List Int) x_106)), (22, V (.agg #[.int .i64 3, .int .i64 2, .int .i64 1])), (23, I x_106), (27, V (.agg #[.int .i64 s_.Ops, .int .i64 s_.States])), (28, I (gi ([3, 2, 1] : List Int) x_106))], [(3, (23, [I s_.Ops, I s_.States])), (5, (25, [I 0, I 0, I 0]))]⟩) (by kernel_rfl) ?_
            intro a hS
            refine op1 (call hS (by kernel_rfl) (by kernel_rfl) hb56 (by kernel_rfl) (fun _ _ => rfl) (k56 _ _ s_ (gi ([3, 2, 1] : List Int) x_106)) ?_)
            intro v107 a w108 χ109 hE hp hS
            replace hO := hO.mv hE rfl rfl
            clear hE
            obtain ⟨r110, hr⟩ : ∃ r, numbering_Size_block s_ (gi ([3, 2, 1] : List Int) x_106) = r := ⟨_, rfl⟩
            replace hm := hm r110 hr
            rw [hr] at hp
            clear hr
            subst hp
            refine endP T hS (sp := []) (ks := [1, 2, 4, 7, 8, 9, 22, 23]) (bs := [3, 5]) (sy' := ⟨[(1, I v_), (2, Pt 3 0), (4, Pt 5 0), (7, I (gi ([3, 2, 1] : List Int) x_106)), (8, I r110.1), (9, I r110.2.1), (22, V (.agg #[.int .i64 3, .int .i64 2, .int .i64 1])), (23, I x_106)], [(3, (23, [I s_.Ops, I s_.States])), (5, (25, [I 0, I 0, I 0]))]⟩) (by kernel_rfl) ?_
            intro a hS
            refine regP T hS (sp := []) (ks := [1, 2, 4, 7, 9, 11, 22, 23]) (bs := [3, 5]) (sy' := ⟨[(1, I v_), (2, Pt 3 0), (4, Pt 5 0), (7, I (gi ([3, 2, 1] : List Int) x_106)), (9, I r110.2.1), (11, I (IntKind.i64.wrap ((IntKind.i64.wrap (v_ - 1)) - r110.1))), (22, V (.agg #[.int .i64 3, .int .i64 2, .int .i64 1])), (23, I x_106)], [(3, (23, [I s_.Ops, I s_.States])), (5, (25, [I 0, I 0, I 0]))]⟩) (by kernel_rfl) ?_
            intro a hS
            refine regP T hS (sp := [39]) (ks := [1, 2, 4, 7, 9, 11, 22, 23, 42]) (bs := [3, 5]) (sy' := ⟨[(1, I v_), (2, Pt 3 0), (4, Pt 5 0), (7, I (gi ([3, 2, 1] : List Int) x_106)), (9, I r110.2.1), (11, I (IntKind.i64.wrap ((IntKind.i64.wrap (v_ - 1)) - r110.1))), (22, V (.agg #[.int .i64 3, .int .i64 2, .int .i64 1])), (23, I x_106), (42, B ((decide ((IntKind.i64.wrap ((IntKind.i64.wrap (v_ - 1)) - r110.1)) ≥ 0)) && (decide (r110.2.1 > 0))))], [(3, (23, [I s_.Ops, I s_.States])), (5, (25, [I 0, I 0, I 0]))]⟩) (by kernel_rfl) ?_
            intro a hS
            refine wcond hS (b := ((decide ((IntKind.i64.wrap ((IntKind.i64.wrap (v_ - 1)) - r110.1)) ≥ 0)) && (decide (r110.2.1 > 0)))) (by kernel_rfl) (fun hb => ?_) (fun hb => ?_)
            · replace hm := hm.1 hb
              replace hS := hS.sel [4, 7, 9, 11] [5] (sy' := ⟨[(4, Pt 5 0), (7, I (gi ([3, 2, 1] : List Int) x_106)), (9, I r110.2.1), (11, I (IntKind.i64.wrap ((IntKind.i64.wrap (v_ - 1)) - r110.1)))], [(5, (25, [I 0, I 0, I 0]))]⟩) (by kernel_rfl)
              refine drawnS [5] mixed hS ?_
              intro w111 hS hE hD hH
              replace hO := hO.mv hE rfl rfl
              clear hE
              refine take T [0, 1, 2, 4, 5] [5] [4, 43, 44, 45, 47, 48] hS (by kernel_rfl) (by kernel_rfl) (by kernel_rfl) hH (listed' := #[true, true, true, false, true, true, false, false, false, false]) (fuel := 5) (sy' := ⟨[(4, Pt 5 0), (43, I (gi ([3, 2, 1] : List Int) x_106)), (44, I (IntKind.i64.wrap ((IntKind.i64.wrap (v_ - 1)) - r110.1))), (45, I r110.2.1), (47, I (IntKind.i64.wrap ((IntKind.i64.wrap (v_ - 1)) - r110.1))), (48, I r110.2.1)], [(5, (25, [I 0, I 0, I 0]))]⟩) (by kernel_rfl) (by rfl) ?_
              intro a hS
              obtain ⟨hq, hm⟩ := hm
              refine dquo (k := .i64) (p := IntKind.i64.wrap ((IntKind.i64.wrap (v_ - 1)) - r110.1)) (q := r110.2.1) 3 hS (by kernel_rfl) (by kernel_rfl) (by kernel_rfl) (by rfl) (by kernel_rfl) hH (by kernel_rfl) (by kernel_rfl) hq ?_
              intro a hS
              clear hq
              obtain ⟨hq, hm⟩ := hm
              refine drem (k := .i64) (p := IntKind.i64.wrap ((IntKind.i64.wrap (v_ - 1)) - r110.1)) (q := r110.2.1) 6 hS (by kernel_rfl) (by kernel_rfl) (by kernel_rfl) (by rfl) (by kernel_rfl) hH (by kernel_rfl) (by kernel_rfl) hq ?_
              intro a hS
              clear hq
              refine take T [7] [5] [4, 50] hS (by kernel_rfl) (by kernel_rfl) (by kernel_rfl) hH (listed' := #[true, true, true, true, true, true, true, true, false, false]) (fuel := 2) (sy' := ⟨[(4, Pt 5 0), (50, V (.agg #[.int .i64 (gi ([3, 2, 1] : List Int) x_106), .int .i64 (IntKind.i64.wrap (((IntKind.i64.wrap ((IntKind.i64.wrap (v_ - 1)) - r110.1))).tdiv r110.2.1)), .int .i64 (((IntKind.i64.wrap ((IntKind.i64.wrap (v_ - 1)) - r110.1))).tmod r110.2.1)]))], [(5, (25, [I 0, I 0, I 0]))]⟩) (by kernel_rfl) (by rfl) ?_
              intro a hS
              replace hS := hS.sel [4, 50] [5] (sy' := ⟨[(4, Pt 5 0), (50, V (.agg #[.int .i64 (gi ([3, 2, 1] : List Int) x_106), .int .i64 (IntKind.i64.wrap (((IntKind.i64.wrap ((IntKind.i64.wrap (v_ - 1)) - r110.1))).tdiv r110.2.1)), .int .i64 (((IntKind.i64.wrap ((IntKind.i64.wrap (v_ - 1)) - r110.1))).tmod r110.2.1)]))], [(5, (25, [I 0, I 0, I 0]))]⟩) (by kernel_rfl)
              refine only 8 (by kernel_rfl) (by rfl) (box1 T hS (by kernel_rfl) (by kernel_rfl) (by kernel_rfl) (sy' := ⟨[(12, Pt 13 0), (4, Pt 5 0), (50, V (.agg #[.int .i64 (gi ([3, 2, 1] : List Int) x_106), .int .i64 (IntKind.i64.wrap (((IntKind.i64.wrap ((IntKind.i64.wrap (v_ - 1)) - r110.1))).tdiv r110.2.1)), .int .i64 (((IntKind.i64.wrap ((IntKind.i64.wrap (v_ - 1)) - r110.1))).tmod r110.2.1)]))], [(13, (25, [I 0, I 0, I 0])), (5, (25, [I 0, I 0, I 0]))]⟩) (by kernel_rfl) ?_)
              intro ρ a w112 χ113 hS hE hr114
              replace hO := hO.mv hE rfl rfl
              replace hD := hD.ev hE rfl
              clear hE
              replace hS := hS.sel [4, 50, 12] [5, 13] (sy' := ⟨[(4, Pt 5 0), (50, V (.agg #[.int .i64 (gi ([3, 2, 1] : List Int) x_106), .int .i64 (IntKind.i64.wrap (((IntKind.i64.wrap ((IntKind.i64.wrap (v_ - 1)) - r110.1))).tdiv r110.2.1)), .int .i64 (((IntKind.i64.wrap ((IntKind.i64.wrap (v_ - 1)) - r110.1))).tmod r110.2.1)])), (12, Pt 13 0)], [(5, (25, [I 0, I 0, I 0])), (13, (25, [I 0, I 0, I 0]))]⟩) (by kernel_rfl)
              refine andH ((Hold.of hS (bks := [5]) (by kernel_rfl) hD).rho hr114 (by kernel_rfl)) ?_
              intro hH
              replace hS := hS.sel [4, 50, 12] [5, 13] (sy' := ⟨[(4, Pt 5 0), (50, V (.agg #[.int .i64 (gi ([3, 2, 1] : List Int) x_106), .int .i64 (IntKind.i64.wrap (((IntKind.i64.wrap ((IntKind.i64.wrap (v_ - 1)) - r110.1))).tdiv r110.2.1)), .int .i64 (((IntKind.i64.wrap ((IntKind.i64.wrap (v_ - 1)) - r110.1))).tmod r110.2.1)])), (12, Pt 13 0)], [(5, (25, [I 0, I 0, I 0])), (13, (25, [I 0, I 0, I 0]))]⟩) (by kernel_rfl)
              refine only 9 (by kernel_rfl) (by rfl) (store1 T hS (by kernel_rfl) (by kernel_rfl) (sy' := ⟨[(4, Pt 5 0), (50, V (.agg #[.int .i64 (gi ([3, 2, 1] : List Int) x_106), .int .i64 (IntKind.i64.wrap (((IntKind.i64.wrap ((IntKind.i64.wrap (v_ - 1)) - r110.1))).tdiv r110.2.1)), .int .i64 (((IntKind.i64.wrap ((IntKind.i64.wrap (v_ - 1)) - r110.1))).tmod r110.2.1)])), (12, Pt 13 0)], [(13, (25, [I (gi ([3, 2, 1] : List Int) x_106), I (IntKind.i64.wrap (((IntKind.i64.wrap ((IntKind.i64.wrap (v_ - 1)) - r110.1))).tdiv r110.2.1)), I (((IntKind.i64.wrap ((IntKind.i64.wrap (v_ - 1)) - r110.1))).tmod r110.2.1)])), (5, (25, [I 0, I 0, I 0])), (13, (25, [I 0, I 0, I 0]))]⟩) (by kernel_rfl) ?_)
              intro a w115 χ116 hS hE
              replace hO := hO.mv hE rfl rfl
              replace hD := hD.ev hE rfl
              clear hE
              replace hS := hS.sel [4, 50, 12] [5, 13] (sy' := ⟨[(4, Pt 5 0), (50, V (.agg #[.int .i64 (gi ([3, 2, 1] : List Int) x_106), .int .i64 (IntKind.i64.wrap (((IntKind.i64.wrap ((IntKind.i64.wrap (v_ - 1)) - r110.1))).tdiv r110.2.1)), .int .i64 (((IntKind.i64.wrap ((IntKind.i64.wrap (v_ - 1)) - r110.1))).tmod r110.2.1)])), (12, Pt 13 0)], [(5, (25, [I 0, I 0, I 0])), (13, (25, [I (gi ([3, 2, 1] : List Int) x_106), I (IntKind.i64.wrap (((IntKind.i64.wrap ((IntKind.i64.wrap (v_ - 1)) - r110.1))).tdiv r110.2.1)), I (((IntKind.i64.wrap ((IntKind.i64.wrap (v_ - 1)) - r110.1))).tmod r110.2.1)]))]⟩) (by kernel_rfl)
              refine andH ((Hold.of hS (bks := [5]) (by kernel_rfl) hD).rho hr114 (by kernel_rfl)) ?_
              intro hH
              refine drawnDone (by kernel_rfl) ?_
              clear hD hH
              replace hS := hS.sel [4, 12] [5, 13] (sy' := ⟨[(4, Pt 5 0), (12, Pt 13 0)], [(5, (25, [I 0, I 0, I 0])), (13, (25, [I (gi ([3, 2, 1] : List Int) x_106), I (IntKind.i64.wrap (((IntKind.i64.wrap ((IntKind.i64.wrap (v_ - 1)) - r110.1))).tdiv r110.2.1)), I (((IntKind.i64.wrap ((IntKind.i64.wrap (v_ - 1)) - r110.1))).tmod r110.2.1)]))]⟩) (by kernel_rfl)
              refine drawnS [13] mixed hS ?_
              intro w117 hS hE hD hH
              replace hO := hO.mv hE rfl rfl
              clear hE
              refine take T [0, 1, 2] [13] [4, 51, 52, 53] hS (by kernel_rfl) (by kernel_rfl) (by kernel_rfl) hH (listed' := #[true, true, true, false, false, false]) (fuel := 3) (sy' := ⟨[(4, Pt 5 0), (51, V (.agg #[.int .i64 (gi ([3, 2, 1] : List Int) x_106), .int .i64 (IntKind.i64.wrap (((IntKind.i64.wrap ((IntKind.i64.wrap (v_ - 1)) - r110.1))).tdiv r110.2.1)), .int .i64 (((IntKind.i64.wrap ((IntKind.i64.wrap (v_ - 1)) - r110.1))).tmod r110.2.1)])), (52, V (.agg #[.int .i64 (gi ([3, 2, 1] : List Int) x_106), .int .i64 (IntKind.i64.wrap (((IntKind.i64.wrap ((IntKind.i64.wrap (v_ - 1)) - r110.1))).tdiv r110.2.1)), .int .i64 (((IntKind.i64.wrap ((IntKind.i64.wrap (v_ - 1)) - r110.1))).tmod r110.2.1)])), (53, V (.agg #[.int .i64 0, .int .i64 0, .int .i64 0]))], [(5, (25, [I 0, I 0, I 0])), (13, (25, [I (gi ([3, 2, 1] : List Int) x_106), I (IntKind.i64.wrap (((IntKind.i64.wrap ((IntKind.i64.wrap (v_ - 1)) - r110.1))).tdiv r110.2.1)), I (((IntKind.i64.wrap ((IntKind.i64.wrap (v_ - 1)) - r110.1))).tmod r110.2.1)]))]⟩) (by kernel_rfl) (by rfl) ?_
              intro a hS
              refine dstructEq (op := .neq) (xs := [.int .i64 (gi ([3, 2, 1] : List Int) x_106), .int .i64 (IntKind.i64.wrap (((IntKind.i64.wrap ((IntKind.i64.wrap (v_ - 1)) - r110.1))).tdiv r110.2.1)), .int .i64 (((IntKind.i64.wrap ((IntKind.i64.wrap (v_ - 1)) - r110.1))).tmod r110.2.1)]) (ys := [.int .i64 0, .int .i64 0, .int .i64 0]) (r := ((gi ([3, 2, 1] : List Int) x_106) == 0 && ((IntKind.i64.wrap (((IntKind.i64.wrap ((IntKind.i64.wrap (v_ - 1)) - r110.1))).tdiv r110.2.1)) == 0 && ((((IntKind.i64.wrap ((IntKind.i64.wrap (v_ - 1)) - r110.1))).tmod r110.2.1) == 0 && true)))) (b := (!((gi ([3, 2, 1] : List Int) x_106) == 0 && ((IntKind.i64.wrap (((IntKind.i64.wrap ((IntKind.i64.wrap (v_ - 1)) - r110.1))).tdiv r110.2.1)) == 0 && ((((IntKind.i64.wrap ((IntKind.i64.wrap (v_ - 1)) - r110.1))).tmod r110.2.1) == 0 && true))))) 3 T hS (by kernel_rfl) (by kernel_rfl) (by kernel_rfl) (by rfl) (by kernel_rfl) hH (by kernel_rfl) (by kernel_rfl) (by kernel_rfl) (by kernel_rfl) (by kernel_rfl) (by kernel_rfl) ?_
              intro a hS
              replace hS := hS.sel [4, 51, 52, 53, 54] [5, 13] (sy' := ⟨[(4, Pt 5 0), (51, V (.agg #[.int .i64 (gi ([3, 2, 1] : List Int) x_106), .int .i64 (IntKind.i64.wrap (((IntKind.i64.wrap ((IntKind.i64.wrap (v_ - 1)) - r110.1))).tdiv r110.2.1)), .int .i64 (((IntKind.i64.wrap ((IntKind.i64.wrap (v_ - 1)) - r110.1))).tmod r110.2.1)])), (52, V (.agg #[.int .i64 (gi ([3, 2, 1] : List Int) x_106), .int .i64 (IntKind.i64.wrap (((IntKind.i64.wrap ((IntKind.i64.wrap (v_ - 1)) - r110.1))).tdiv r110.2.1)), .int .i64 (((IntKind.i64.wrap ((IntKind.i64.wrap (v_ - 1)) - r110.1))).tmod r110.2.1)])), (53, V (.agg #[.int .i64 0, .int .i64 0, .int .i64 0])), (54, B (!((gi ([3, 2, 1] : List Int) x_106) == 0 && ((IntKind.i64.wrap (((IntKind.i64.wrap ((IntKind.i64.wrap (v_ - 1)) - r110.1))).tdiv r110.2.1)) == 0 && ((((IntKind.i64.wrap ((IntKind.i64.wrap (v_ - 1)) - r110.1))).tmod r110.2.1) == 0 && true)))))], [(5, (25, [I 0, I 0, I 0])), (13, (25, [I (gi ([3, 2, 1] : List Int) x_106), I (IntKind.i64.wrap (((IntKind.i64.wrap ((IntKind.i64.wrap (v_ - 1)) - r110.1))).tdiv r110.2.1)), I (((IntKind.i64.wrap ((IntKind.i64.wrap (v_ - 1)) - r110.1))).tmod r110.2.1)]))]⟩) (by kernel_rfl)
              refine only 4 (by kernel_rfl) (by rfl) (store1 T hS (by kernel_rfl) (by kernel_rfl) (sy' := ⟨[(4, Pt 5 0), (51, V (.agg #[.int .i64 (gi ([3, 2, 1] : List Int) x_106), .int .i64 (IntKind.i64.wrap (((IntKind.i64.wrap ((IntKind.i64.wrap (v_ - 1)) - r110.1))).tdiv r110.2.1)), .int .i64 (((IntKind.i64.wrap ((IntKind.i64.wrap (v_ - 1)) - r110.1))).tmod r110.2.1)])), (52, V (.agg #[.int .i64 (gi ([3, 2, 1] : List Int) x_106), .int .i64 (IntKind.i64.wrap (((IntKind.i64.wrap ((IntKind.i64.wrap (v_ - 1)) - r110.1))).tdiv r110.2.1)), .int .i64 (((IntKind.i64.wrap ((IntKind.i64.wrap (v_ - 1)) - r110.1))).tmod r110.2.1)])), (53, V (.agg #[.int .i64 0, .int .i64 0, .int .i64 0])), (54, B (!((gi ([3, 2, 1] : List Int) x_106) == 0 && ((IntKind.i64.wrap (((IntKind.i64.wrap ((IntKind.i64.wrap (v_ - 1)) - r110.1))).tdiv r110.2.1)) == 0 && ((((IntKind.i64.wrap ((IntKind.i64.wrap (v_ - 1)) - r110.1))).tmod r110.2.1) == 0 && true)))))], [(5, (25, [I (gi ([3, 2, 1] : List Int) x_106), I (IntKind.i64.wrap (((IntKind.i64.wrap ((IntKind.i64.wrap (v_ - 1)) - r110.1))).tdiv r110.2.1)), I (((IntKind.i64.wrap ((IntKind.i64.wrap (v_ - 1)) - r110.1))).tmod r110.2.1)])), (5, (25, [I 0, I 0, I 0])), (13, (25, [I (gi ([3, 2, 1] : List Int) x_106), I (IntKind.i64.wrap (((IntKind.i64.wrap ((IntKind.i64.wrap (v_ - 1)) - r110.1))).tdiv r110.2.1)), I (((IntKind.i64.wrap ((IntKind.i64.wrap (v_ - 1)) - r110.1))).tmod r110.2.1)]))]⟩) (by kernel_rfl) ?_)
              intro a w118 χ119 hS hE
              replace hO := hO.mv hE rfl rfl
              replace hD := hD.ev hE rfl
              clear hE
              replace hS := hS.sel [4, 51, 52, 53, 54] [5, 13] (sy' := ⟨[(4, Pt 5 0), (51, V (.agg #[.int .i64 (gi ([3, 2, 1] : List Int) x_106), .int .i64 (IntKind.i64.wrap (((IntKind.i64.wrap ((IntKind.i64.wrap (v_ - 1)) - r110.1))).tdiv r110.2.1)), .int .i64 (((IntKind.i64.wrap ((IntKind.i64.wrap (v_ - 1)) - r110.1))).tmod r110.2.1)])), (52, V (.agg #[.int .i64 (gi ([3, 2, 1] : List Int) x_106), .int .i64 (IntKind.i64.wrap (((IntKind.i64.wrap ((IntKind.i64.wrap (v_ - 1)) - r110.1))).tdiv r110.2.1)), .int .i64 (((IntKind.i64.wrap ((IntKind.i64.wrap (v_ - 1)) - r110.1))).tmod r110.2.1)])), (53, V (.agg #[.int .i64 0, .int .i64 0, .int .i64 0])), (54, B (!((gi ([3, 2, 1] : List Int) x_106) == 0 && ((IntKind.i64.wrap (((IntKind.i64.wrap ((IntKind.i64.wrap (v_ - 1)) - r110.1))).tdiv r110.2.1)) == 0 && ((((IntKind.i64.wrap ((IntKind.i64.wrap (v_ - 1)) - r110.1))).tmod r110.2.1) == 0 && true)))))], [(5, (25, [I (gi ([3, 2, 1] : List Int) x_106), I (IntKind.i64.wrap (((IntKind.i64.wrap ((IntKind.i64.wrap (v_ - 1)) - r110.1))).tdiv r110.2.1)), I (((IntKind.i64.wrap ((IntKind.i64.wrap (v_ - 1)) - r110.1))).tmod r110.2.1)])), (13, (25, [I (gi ([3, 2, 1] : List Int) x_106), I (IntKind.i64.wrap (((IntKind.i64.wrap ((IntKind.i64.wrap (v_ - 1)) - r110.1))).tdiv r110.2.1)), I (((IntKind.i64.wrap ((IntKind.i64.wrap (v_ - 1)) - r110.1))).tmod r110.2.1)]))]⟩) (by kernel_rfl)
              refine andH (Hold.of hS (bks := [13]) (by kernel_rfl) hD) ?_
              intro hH
              refine take T [5] [13] [4, 5] hS (by kernel_rfl) (by kernel_rfl) (by kernel_rfl) hH (listed' := #[true, true, true, true, true, true]) (fuel := 0) (sy' := ⟨[(4, Pt 5 0), (5, B (!((gi ([3, 2, 1] : List Int) x_106) == 0 && ((IntKind.i64.wrap (((IntKind.i64.wrap ((IntKind.i64.wrap (v_ - 1)) - r110.1))).tdiv r110.2.1)) == 0 && ((((IntKind.i64.wrap ((IntKind.i64.wrap (v_ - 1)) - r110.1))).tmod r110.2.1) == 0 && true)))))], [(5, (25, [I (gi ([3, 2, 1] : List Int) x_106), I (IntKind.i64.wrap (((IntKind.i64.wrap ((IntKind.i64.wrap (v_ - 1)) - r110.1))).tdiv r110.2.1)), I (((IntKind.i64.wrap ((IntKind.i64.wrap (v_ - 1)) - r110.1))).tmod r110.2.1)])), (13, (25, [I (gi ([3, 2, 1] : List Int) x_106), I (IntKind.i64.wrap (((IntKind.i64.wrap ((IntKind.i64.wrap (v_ - 1)) - r110.1))).tdiv r110.2.1)), I (((IntKind.i64.wrap ((IntKind.i64.wrap (v_ - 1)) - r110.1))).tmod r110.2.1)]))]⟩) (by kernel_rfl) (by rfl) ?_
              intro a hS
              refine drawnDone (by kernel_rfl) ?_
              clear hD hH
              replace hS := hS.sel [4, 5] [5] (sy' := ⟨[(4, Pt 5 0), (5, B (!((gi ([3, 2, 1] : List Int) x_106) == 0 && ((IntKind.i64.wrap (((IntKind.i64.wrap ((IntKind.i64.wrap (v_ - 1)) - r110.1))).tdiv r110.2.1)) == 0 && ((((IntKind.i64.wrap ((IntKind.i64.wrap (v_ - 1)) - r110.1))).tmod r110.2.1) == 0 && true)))))], [(5, (25, [I (gi ([3, 2, 1] : List Int) x_106), I (IntKind.i64.wrap (((IntKind.i64.wrap ((IntKind.i64.wrap (v_ - 1)) - r110.1))).tdiv r110.2.1)), I (((IntKind.i64.wrap ((IntKind.i64.wrap (v_ - 1)) - r110.1))).tmod r110.2.1)]))]⟩) (by kernel_rfl)
              refine wret ?_
              exact fin T hS hO (fun c => c) rfl (r := [.agg #[.int .i64 (gi ([3, 2, 1] : List Int) x_106), .int .i64 (IntKind.i64.wrap (((IntKind.i64.wrap ((IntKind.i64.wrap (v_ - 1)) - r110.1))).tdiv r110.2.1)), .int .i64 (((IntKind.i64.wrap ((IntKind.i64.wrap (v_ - 1)) - r110.1))).tmod r110.2.1)], .bool (!((gi ([3, 2, 1] : List Int) x_106) == 0 && ((IntKind.i64.wrap (((IntKind.i64.wrap ((IntKind.i64.wrap (v_ - 1)) - r110.1))).tdiv r110.2.1)) == 0 && ((((IntKind.i64.wrap ((IntKind.i64.wrap (v_ - 1)) - r110.1))).tmod r110.2.1) == 0 && true))))]) (by kernel_rfl) (fun χ' hM hC => ⟨((⟨(gi ([3, 2, 1] : List Int) x_106), IntKind.i64.wrap (((IntKind.i64.wrap ((IntKind.i64.wrap (v_ - 1)) - r110.1))).tdiv r110.2.1), (((IntKind.i64.wrap ((IntKind.i64.wrap (v_ - 1)) - r110.1))).tmod r110.2.1)⟩ : Numbering_Name), (!((gi ([3, 2, 1] : List Int) x_106) == 0 && ((IntKind.i64.wrap (((IntKind.i64.wrap ((IntKind.i64.wrap (v_ - 1)) - r110.1))).tdiv r110.2.1)) == 0 && ((((IntKind.i64.wrap ((IntKind.i64.wrap (v_ - 1)) - r110.1))).tmod r110.2.1) == 0 && true))))), hm, rfl⟩)
            · replace hm := hm.2 hb
              refine wskip ?_
              refine region (endP T hS (sp := []) (ks := [1, 2, 4, 22, 23]) (bs := [3, 5]) (sy' := ⟨[(1, I v_), (2, Pt 3 0), (4, Pt 5 0), (22, V (.agg #[.int .i64 3, .int .i64 2, .int .i64 1])), (23, I (IntKind.i64.wrap (x_106 + 1)))], [(3, (23, [I s_.Ops, I s_.States])), (5, (25, [I 0, I 0, I 0]))]⟩) (by kernel_rfl) ?_)
              intro a hS
              exact ⟨IntKind.i64.wrap (x_106 + 1), ⟨ρ, _, hm.1, hS.sel [1, 2, 4, 22, 23] [3, 5] (by kernel_rfl), hO⟩, hm.2⟩
          · replace hm := hm.2 hb
            refine wexit (by rfl) ?_
            exact ⟨ρ, _, hm, hS.sel [4] [5] (by kernel_rfl), hO⟩
      · rintro a w123 ⟨ρ, χ122, hm, hS, hO⟩
        unfold VC20_J2 at hm
        refine regM T hS (sp := []) (ks := [4, 5]) (bs := [5]) (sy' := ⟨[(4, Pt 5 0), (5, B false)], [(5, (25, [I 0, I 0, I 0]))]⟩) (by kernel_rfl) ?_
        intro ρ a w104 χ105 hS hE
        replace hO := hO.mv hE rfl rfl
        clear hE
        refine wret ?_
        exact fin T hS hO (fun c => c) rfl (r := [.agg #[.int .i64 0, .int .i64 0, .int .i64 0], .bool false]) (by kernel_rfl) (fun χ' hM hC => ⟨((⟨0, 0, 0⟩ : Numbering_Name), false), hm, rfl⟩)
theorem C20 (k23 : S23) (k56 : S56) (v : ∀ (s_ : Numbering_Size) (v_ : Int), VC20 s_ v_ (fun r => r = numbering_Of s_ v_)) : S20 := by
  intro w χ s_ v_   
  refine (W20 k23 k56 w χ s_ v_   _ (v s_ v_)).mono ?_
  rintro _ _ _ _ ⟨r, rfl, h⟩
  exact h

def S18 : Prop := ∀ (w : World) (χ : Nat → Nat), Ret Try.prog 18 #[] xnone w χ (fun w χ' v => v = .bool law31_awake)
theorem hb18 : hasBody Try.prog 18 = true := by kernel_rfl
/-- replevin/replevinlaw31.awake -/
theorem W18 (k20 : S20) (k21 : S21) (k23 : S23) (k24 : S24) (w0 : World) (χ0 : Nat → Nat) (Q : Bool → Prop) (hm : VC18 Q) :
    Ret Try.prog 18 #[] xnone w0 χ0 (fun w χ' v => ∃ r, Q r ∧ v = .bool r) := by
  unfold VC18 at hm
  refine enter Try.func18 rfl (vals := []) (by kernel_rfl) ?_
  intro ρ a hS hO hM
  clear hM
  refine regP T hS (sp := []) (ks := []) (bs := []) (sy' := ⟨[], []⟩) (by kernel_rfl) ?_
  intro a hS
  refine regM T hS (sp := []) (ks := [1]) (bs := [2]) (sy' := ⟨[(1, Pt 2 0)], [(2, (23, [I 2, I 3]))]⟩) (by kernel_rfl) ?_
  intro ρ a w141 χ142 hS hE
  replace hO := hO.mv hE rfl rfl
  clear hE
  refine regO ?_
  refine opsP T hS 1 (sp := []) (ks := [1, 8]) (bs := [2]) (sy' := ⟨[(1, Pt 2 0), (8, V (.agg #[.int .i64 2, .int .i64 3]))], [(2, (23, [I 2, I 3]))]⟩) (by kernel_rfl) ?_
  intro a hS
  refine op1 (call hS (by kernel_rfl) (by kernel_rfl) hb20 (by kernel_rfl) (fun _ _ => rfl) (k20 _ _ (⟨2, 3⟩ : Numbering_Size) 15) ?_)
  intro v101 a w102 χ103 hE hp hS
  replace hO := hO.mv hE rfl rfl
  clear hE
  obtain ⟨r104, hr⟩ : ∃ r, numbering_Of (⟨2, 3⟩ : Numbering_Size) 15 = r := ⟨_, rfl⟩
  replace hm := hm r104 hr
  rw [hr] at hp
  clear hr
  subst hp
  refine endM T hS (sp := []) (ks := [1, 2, 3]) (bs := [2, 3]) (sy' := ⟨[(1, Pt 2 0), (2, Pt 3 0), (3, B r104.2)], [(2, (23, [I 2, I 3])), (3, (25, [I r104.1.Kind, I r104.1.A, I r104.1.B]))]⟩) (by kernel_rfl) ?_
  intro ρ a w139 χ140 hS hE
  replace hO := hO.mv hE rfl rfl
  clear hE
  refine regO ?_
  refine opsP T hS 1 (sp := []) (ks := [1, 2, 3, 13]) (bs := [2, 3]) (sy' := ⟨[(1, Pt 2 0), (2, Pt 3 0), (3, B r104.2), (13, V (.agg #[.int .i64 2, .int .i64 3]))], [(2, (23, [I 2, I 3])), (3, (25, [I r104.1.Kind, I r104.1.A, I r104.1.B]))]⟩) (by kernel_rfl) ?_
  intro a hS
  refine op1 (call hS (by kernel_rfl) (by kernel_rfl) hb20 (by kernel_rfl) (fun _ _ => rfl) (k20 _ _ (⟨2, 3⟩ : Numbering_Size) 16) ?_)
  intro v105 a w106 χ107 hE hp hS
  replace hO := hO.mv hE rfl rfl
  clear hE
  obtain ⟨r108, hr⟩ : ∃ r, numbering_Of (⟨2, 3⟩ : Numbering_Size) 16 = r := ⟨_, rfl⟩
  replace hm := hm r108 hr
  rw [hr] at hp
  clear hr
  subst hp
  refine endM T hS (sp := []) (ks := [1, 2, 3, 5]) (bs := [2, 3]) (sy' := ⟨[(1, Pt 2 0), (2, Pt 3 0), (3, B r104.2), (5, B r108.2)], [(2, (23, [I 2, I 3])), (3, (25, [I r104.1.Kind, I r104.1.A, I r104.1.B]))]⟩) (by kernel_rfl) ?_
  intro ρ a w137 χ138 hS hE
  replace hO := hO.mv hE rfl rfl
  clear hE
  refine regO ?_
  refine opsP T hS 1 (sp := []) (ks := [1, 2, 3, 5, 17]) (bs := [2, 3]) (sy' := ⟨[(1, Pt 2 0), (2, Pt 3 0), (3, B r104.2), (5, B r108.2), (17, V (.agg #[.int .i64 2, .int .i64 3]))], [(2, (23, [I 2, I 3])), (3, (25, [I r104.1.Kind, I r104.1.A, I r104.1.B]))]⟩) (by kernel_rfl) ?_
  intro a hS
  refine op1 (call hS (by kernel_rfl) (by kernel_rfl) hb23 (by kernel_rfl) (fun _ _ => rfl) (k23 _ _ (⟨2, 3⟩ : Numbering_Size)) ?_)
  intro v109 a w110 χ111 hE hp hS
  replace hO := hO.mv hE rfl rfl
  clear hE
  obtain ⟨r112, hr⟩ : ∃ r, numbering_Vars (⟨2, 3⟩ : Numbering_Size) = r := ⟨_, rfl⟩
  replace hm := hm r112 hr
  rw [hr] at hp
  clear hr
  subst hp
  refine opsP T hS 2 (sp := []) (ks := [1, 2, 3, 5, 20]) (bs := [2, 3]) (sy' := ⟨[(1, Pt 2 0), (2, Pt 3 0), (3, B r104.2), (5, B r108.2), (20, B (r112 == 15))], [(2, (23, [I 2, I 3])), (3, (25, [I r104.1.Kind, I r104.1.A, I r104.1.B]))]⟩) (by kernel_rfl) ?_
  intro a hS
  rcases Bool.eq_false_or_eq_true (r112 == 15) with hb | hb
  · replace hS := hS.lit (t := 20) (by kernel_rfl) hb
    replace hm := hm.1 hb
    refine opsP T hS 2 (sp := []) (ks := [1, 2, 3, 5, 20, 21, 22]) (bs := [2, 3]) (sy' := ⟨[(1, Pt 2 0), (2, Pt 3 0), (3, B r104.2), (5, B r108.2), (20, B true), (21, V (.agg #[.int .i64 2, .int .i64 3])), (22, V (.agg #[.int .i64 1, .int .i64 1, .int .i64 0]))], [(2, (23, [I 2, I 3])), (3, (25, [I r104.1.Kind, I r104.1.A, I r104.1.B]))]⟩) (by kernel_rfl) ?_
    intro a hS
    refine op1 (call hS (by kernel_rfl) (by kernel_rfl) hb24 (by kernel_rfl) (fun _ _ => rfl) (k24 _ _ (⟨2, 3⟩ : Numbering_Size) (⟨1, 1, 0⟩ : Numbering_Name)) ?_)
    intro v113 a w114 χ115 hE hp hS
    replace hO := hO.mv hE rfl rfl
    clear hE
    obtain ⟨r116, hr⟩ : ∃ r, numbering_Var (⟨2, 3⟩ : Numbering_Size) (⟨1, 1, 0⟩ : Numbering_Name) = r := ⟨_, rfl⟩
    replace hm := hm r116 hr
    rw [hr] at hp
    clear hr
    subst hp
    refine opsP T hS 3 (sp := []) (ks := [1, 2, 3, 5, 26]) (bs := [2, 3]) (sy' := ⟨[(1, Pt 2 0), (2, Pt 3 0), (3, B r104.2), (5, B r108.2), (26, B (r116 == 3))], [(2, (23, [I 2, I 3])), (3, (25, [I r104.1.Kind, I r104.1.A, I r104.1.B]))]⟩) (by kernel_rfl) ?_
    intro a hS
    rcases Bool.eq_false_or_eq_true (r116 == 3) with hb | hb
    · replace hS := hS.lit (t := 26) (by kernel_rfl) hb
      replace hm := hm.1 hb
      refine opsP T hS 2 (sp := []) (ks := [1, 2, 3, 5, 26, 27, 28]) (bs := [2, 3]) (sy' := ⟨[(1, Pt 2 0), (2, Pt 3 0), (3, B r104.2), (5, B r108.2), (26, B true), (27, V (.agg #[.int .i64 2, .int .i64 3])), (28, V (.agg #[.int .i64 2, .int .i64 0, .int .i64 0]))], [(2, (23, [I 2, I 3])), (3, (25, [I r104.1.Kind, I r104.1.A, I r104.1.B]))]⟩) (by kernel_rfl) ?_
      intro a hS
      refine op1 (call hS (by kernel_rfl) (by kernel_rfl) hb24 (by kernel_rfl) (fun _ _ => rfl) (k24 _ _ (⟨2, 3⟩ : Numbering_Size) (⟨2, 0, 0⟩ : Numbering_Name)) ?_)
      intro v117 a w118 χ119 hE hp hS
      replace hO := hO.mv hE rfl rfl
      clear hE
      obtain ⟨r120, hr⟩ : ∃ r, numbering_Var (⟨2, 3⟩ : Numbering_Size) (⟨2, 0, 0⟩ : Numbering_Name) = r := ⟨_, rfl⟩
      replace hm := hm r120 hr
      rw [hr] at hp
      clear hr
      subst hp
      refine opsP T hS 3 (sp := []) (ks := [1, 2, 3, 5, 32]) (bs := [2, 3]) (sy' := ⟨[(1, Pt 2 0), (2, Pt 3 0), (3, B r104.2), (5, B r108.2), (32, B (r120 == 5))], [(2, (23, [I 2, I 3])), (3, (25, [I r104.1.Kind, I r104.1.A, I r104.1.B]))]⟩) (by kernel_rfl) ?_
      intro a hS
      rcases Bool.eq_false_or_eq_true (r120 == 5) with hb | hb
      · replace hS := hS.lit (t := 32) (by kernel_rfl) hb
        replace hm := hm.1 hb
        refine opsP T hS 2 (sp := []) (ks := [1, 2, 3, 5, 32, 33, 34]) (bs := [2, 3]) (sy' := ⟨[(1, Pt 2 0), (2, Pt 3 0), (3, B r104.2), (5, B r108.2), (32, B true), (33, V (.agg #[.int .i64 2, .int .i64 3])), (34, V (.agg #[.int .i64 3, .int .i64 0, .int .i64 0]))], [(2, (23, [I 2, I 3])), (3, (25, [I r104.1.Kind, I r104.1.A, I r104.1.B]))]⟩) (by kernel_rfl) ?_
        intro a hS
        refine op1 (call hS (by kernel_rfl) (by kernel_rfl) hb24 (by kernel_rfl) (fun _ _ => rfl) (k24 _ _ (⟨2, 3⟩ : Numbering_Size) (⟨3, 0, 0⟩ : Numbering_Name)) ?_)
        intro v121 a w122 χ123 hE hp hS
        replace hO := hO.mv hE rfl rfl
        clear hE
        obtain ⟨r124, hr⟩ : ∃ r, numbering_Var (⟨2, 3⟩ : Numbering_Size) (⟨3, 0, 0⟩ : Numbering_Name) = r := ⟨_, rfl⟩
        replace hm := hm r124 hr
        rw [hr] at hp
        clear hr
        subst hp
        refine opsP T hS 3 (sp := []) (ks := [1, 2, 3, 5, 38]) (bs := [2, 3]) (sy' := ⟨[(1, Pt 2 0), (2, Pt 3 0), (3, B r104.2), (5, B r108.2), (38, B (r124 == 7))], [(2, (23, [I 2, I 3])), (3, (25, [I r104.1.Kind, I r104.1.A, I r104.1.B]))]⟩) (by kernel_rfl) ?_
        intro a hS
        rcases Bool.eq_false_or_eq_true (r124 == 7) with hb | hb
        · replace hS := hS.lit (t := 38) (by kernel_rfl) hb
          replace hm := hm.1 hb
          refine opsP T hS 2 (sp := []) (ks := [1, 3, 5, 38, 39, 40]) (bs := [2]) (sy' := ⟨[(1, Pt 2 0), (3, B r104.2), (5, B r108.2), (38, B true), (39, V (.agg #[.int .i64 r104.1.Kind, .int .i64 r104.1.A, .int .i64 r104.1.B])), (40, V (.agg #[.int .i64 3, .int .i64 2, .int .i64 2]))], [(2, (23, [I 2, I 3]))]⟩) (by kernel_rfl) ?_
          intro a hS
          refine op1 (structEq (op := .eql) (xs := [.int .i64 r104.1.Kind, .int .i64 r104.1.A, .int .i64 r104.1.B]) (ys := [.int .i64 3, .int .i64 2, .int .i64 2]) (r := (r104.1.Kind == 3 && (r104.1.A == 2 && (r104.1.B == 2 && true)))) (b := (r104.1.Kind == 3 && (r104.1.A == 2 && (r104.1.B == 2 && true)))) T hS (by kernel_rfl) (by kernel_rfl) (by kernel_rfl) (by kernel_rfl) (by kernel_rfl) (by kernel_rfl) (by kernel_rfl) (by kernel_rfl) ?_)
          intro a hS
          refine opsP T hS 9 (sp := [43, 46]) (ks := [1, 50]) (bs := [2]) (sy' := ⟨[(1, Pt 2 0), (50, B (((r104.1.Kind == 3 && (r104.1.A == 2 && (r104.1.B == 2 && true))) && r104.2) && (!r108.2)))], [(2, (23, [I 2, I 3]))]⟩) (by kernel_rfl) ?_
          intro a hS
          rcases Bool.eq_false_or_eq_true (((r104.1.Kind == 3 && (r104.1.A == 2 && (r104.1.B == 2 && true))) && r104.2) && (!r108.2)) with hb | hb
          · replace hS := hS.lit (t := 50) (by kernel_rfl) hb
            replace hm := hm.1 hb
            refine opsP T hS 2 (sp := []) (ks := [1, 50, 51, 52]) (bs := [2]) (sy' := ⟨[(1, Pt 2 0), (50, B true), (51, V (.agg #[.int .i64 2, .int .i64 3])), (52, V (.agg #[.int .i64 1, .int .i64 2, .int .i64 0]))], [(2, (23, [I 2, I 3]))]⟩) (by kernel_rfl) ?_
            intro a hS
            refine op1 (call hS (by kernel_rfl) (by kernel_rfl) hb24 (by kernel_rfl) (fun _ _ => rfl) (k24 _ _ (⟨2, 3⟩ : Numbering_Size) (⟨1, 2, 0⟩ : Numbering_Name)) ?_)
            intro v125 a w126 χ127 hE hp hS
            replace hO := hO.mv hE rfl rfl
            clear hE
            obtain ⟨r128, hr⟩ : ∃ r, numbering_Var (⟨2, 3⟩ : Numbering_Size) (⟨1, 2, 0⟩ : Numbering_Name) = r := ⟨_, rfl⟩
            replace hm := hm r128 hr
            rw [hr] at hp
            clear hr
            subst hp
            refine opsP T hS 3 (sp := []) (ks := [1, 56]) (bs := [2]) (sy' := ⟨[(1, Pt 2 0), (56, B (r128 == 0))], [(2, (23, [I 2, I 3]))]⟩) (by kernel_rfl) ?_
            intro a hS
            rcases Bool.eq_false_or_eq_true (r128 == 0) with hb | hb
            · replace hS := hS.lit (t := 56) (by kernel_rfl) hb
              replace hm := hm.1 hb
              refine opsP T hS 1 (sp := []) (ks := [56, 57]) (bs := []) (sy' := ⟨[(56, B true), (57, V (.agg #[.int .i64 2, .int .i64 3]))], []⟩) (by kernel_rfl) ?_
              intro a hS
              refine op1 (call hS (by kernel_rfl) (by kernel_rfl) hb21 (by kernel_rfl) (fun _ _ => rfl) (k21 _ _ (⟨2, 3⟩ : Numbering_Size)) ?_)
              intro v129 a w130 χ131 hE hp hS
              replace hO := hO.mv hE rfl rfl
              clear hE
              obtain ⟨r132, hr⟩ : ∃ r, numbering_Check (⟨2, 3⟩ : Numbering_Size) = r := ⟨_, rfl⟩
              replace hm := hm r132 hr
              rw [hr] at hp
              clear hr
              subst hp
              refine opsP T hS 3 (sp := []) (ks := [61]) (bs := []) (sy' := ⟨[(61, B (r132 == 0))], []⟩) (by kernel_rfl) ?_
              intro a hS
              rcases Bool.eq_false_or_eq_true (r132 == 0) with hb | hb
              · replace hS := hS.lit (t := 61) (by kernel_rfl) hb
                replace hm := hm.1 hb
                refine opsP T hS 1 (sp := []) (ks := [61, 62]) (bs := []) (sy' := ⟨[(61, B true), (62, V (.agg #[.int .i64 65, .int .i64 1]))], []⟩) (by kernel_rfl) ?_
                intro a hS
                refine op1 (call hS (by kernel_rfl) (by kernel_rfl) hb21 (by kernel_rfl) (fun _ _ => rfl) (k21 _ _ (⟨65, 1⟩ : Numbering_Size)) ?_)
                intro v133 a w134 χ135 hE hp hS
                replace hO := hO.mv hE rfl rfl
                clear hE
                obtain ⟨r136, hr⟩ : ∃ r, numbering_Check (⟨65, 1⟩ : Numbering_Size) = r := ⟨_, rfl⟩
                replace hm := hm r136 hr
                rw [hr] at hp
                clear hr
                subst hp
                refine endP T hS (sp := []) (ks := [0]) (bs := []) (sy' := ⟨[(0, B (r136 == 2))], []⟩) (by kernel_rfl) ?_
                intro a hS
                refine wret ?_
                exact fin T hS hO (fun c => c) rfl (r := [.bool (r136 == 2)]) (by kernel_rfl) (fun χ' hM hC => ⟨(r136 == 2), hm, rfl⟩)
              · replace hS := hS.lit (t := 61) (by kernel_rfl) hb
                replace hm := hm.2 hb
                refine endP T hS (sp := []) (ks := [0]) (bs := []) (sy' := ⟨[(0, B false)], []⟩) (by kernel_rfl) ?_
                intro a hS
                refine wret ?_
                exact fin T hS hO (fun c => c) rfl (r := [.bool false]) (by kernel_rfl) (fun χ' hM hC => ⟨false, hm, rfl⟩)
            · replace hS := hS.lit (t := 56) (by kernel_rfl) hb
              replace hm := hm.2 hb
              refine endP T hS (sp := []) (ks := [0]) (bs := []) (sy' := ⟨[(0, B false)], []⟩) (by kernel_rfl) ?_
              intro a hS
              refine wret ?_
              exact fin T hS hO (fun c => c) rfl (r := [.bool false]) (by kernel_rfl) (fun χ' hM hC => ⟨false, hm, rfl⟩)
          · replace hS := hS.lit (t := 50) (by kernel_rfl) hb
            replace hm := hm.2 hb
            refine endP T hS (sp := []) (ks := [0]) (bs := []) (sy' := ⟨[(0, B false)], []⟩) (by kernel_rfl) ?_
            intro a hS
            refine wret ?_
            exact fin T hS hO (fun c => c) rfl (r := [.bool false]) (by kernel_rfl) (fun χ' hM hC => ⟨false, hm, rfl⟩)
        · replace hS := hS.lit (t := 38) (by kernel_rfl) hb
          replace hm := hm.2 hb
          refine endP T hS (sp := []) (ks := [0]) (bs := []) (sy' := ⟨[(0, B false)], []⟩) (by kernel_rfl) ?_
          intro a hS
          refine wret ?_
          exact fin T hS hO (fun c => c) rfl (r := [.bool false]) (by kernel_rfl) (fun χ' hM hC => ⟨false, hm, rfl⟩)
      · replace hS := hS.lit (t := 32) (by kernel_rfl) hb
        replace hm := hm.2 hb
        refine endP T hS (sp := []) (ks := [0]) (bs := []) (sy' := ⟨[(0, B false)], []⟩) (by kernel_rfl) ?_
        intro a hS
        refine wret ?_
        exact fin T hS hO (fun c => c) rfl (r := [.bool false]) (by kernel_rfl) (fun χ' hM hC => ⟨false, hm, rfl⟩)
    · replace hS := hS.lit (t := 26) (by kernel_rfl) hb
      replace hm := hm.2 hb
      refine endP T hS (sp := []) (ks := [0]) (bs := []) (sy' := ⟨[(0, B false)], []⟩) (by kernel_rfl) ?_
      intro a hS
      refine wret ?_
      exact fin T hS hO (fun c => c) rfl (r := [.bool false]) (by kernel_rfl) (fun χ' hM hC => ⟨false, hm, rfl⟩)
  · replace hS := hS.lit (t := 20) (by kernel_rfl) hb
    replace hm := hm.2 hb
    refine endP T hS (sp := []) (ks := [0]) (bs := []) (sy' := ⟨[(0, B false)], []⟩) (by kernel_rfl) ?_
    intro a hS
    refine wret ?_
    exact fin T hS hO (fun c => c) rfl (r := [.bool false]) (by kernel_rfl) (fun χ' hM hC => ⟨false, hm, rfl⟩)
theorem C18 (k20 : S20) (k21 : S21) (k23 : S23) (k24 : S24) (v : ∀ (_ : Unit), VC18 (fun r => r = law31_awake)) : S18 := by
  intro w χ    
  refine (W18 k20 k21 k23 k24 w χ    _ (v ())).mono ?_
  rintro _ _ _ _ ⟨r, rfl, h⟩
  exact h

def S17 : Prop := ∀ (w : World) (χ : Nat → Nat) (s_ : Numbering_Size), Ret Try.prog 17 #[.agg #[.int .i64 s_.Ops, .int .i64 s_.States]] xnone w χ (fun w χ' v => v = .bool (law31_small s_))
theorem hb17 : hasBody Try.prog 17 = true := by kernel_rfl
/-- replevin/replevinlaw31.small -/
theorem W17 (w0 : World) (χ0 : Nat → Nat) (s_ : Numbering_Size) (Q : Bool → Prop) (hm : VC17 s_ Q) :
    Ret Try.prog 17 #[.agg #[.int .i64 s_.Ops, .int .i64 s_.States]] xnone w0 χ0 (fun w χ' v => ∃ r, Q r ∧ v = .bool r) := by
  unfold VC17 at hm
  refine enter Try.func17 rfl (vals := [.agg #[.int .i64 s_.Ops, .int .i64 s_.States]]) (by kernel_rfl) ?_
  intro ρ a hS hO hM
  clear hM
  refine regM T hS (sp := []) (ks := [1]) (bs := [2]) (sy' := ⟨[(1, Pt 2 0)], [(2, (23, [I s_.Ops, I s_.States]))]⟩) (by kernel_rfl) ?_
  intro ρ a w101 χ102 hS hE
  replace hO := hO.mv hE rfl rfl
  clear hE
  refine regP T hS (sp := [6]) (ks := [2]) (bs := []) (sy' := ⟨[(2, B ((decide (s_.Ops ≤ 12)) || (decide (s_.Ops > 64))))], []⟩) (by kernel_rfl) ?_
  intro a hS
  refine wret ?_
  exact fin T hS hO (fun c => c) rfl (r := [.bool ((decide (s_.Ops ≤ 12)) || (decide (s_.Ops > 64)))]) (by kernel_rfl) (fun χ' hM hC => ⟨((decide (s_.Ops ≤ 12)) || (decide (s_.Ops > 64))), hm, rfl⟩)
theorem C17 (v : ∀ (s_ : Numbering_Size), VC17 s_ (fun r => r = law31_small s_)) : S17 := by
  intro w χ s_   
  refine (W17 w χ s_   _ (v s_)).mono ?_
  rintro _ _ _ _ ⟨r, rfl, h⟩
  exact h

def S3 : Prop := ∀ (w : World) (χ : Nat → Nat) (P : Numbering_Size) (O : Numbering_Name) (S : Int), Ret Try.prog 3 #[.agg #[.int .i64 P.Ops, .int .i64 P.States], .agg #[.int .i64 O.Kind, .int .i64 O.A, .int .i64 O.B], .int .i64 S] xnone w χ (fun w χ' v => v = .bool (law31_NumberingTells P O S))
theorem hb3 : hasBody Try.prog 3 = true := by kernel_rfl
/-- replevin/replevinlaw31.NumberingTells -/
theorem W3 (k17 : S17) (k18 : S18) (k19 : S19) (k20 : S20) (k21 : S21) (k22 : S22) (k23 : S23) (k24 : S24) (k25 : S25) (w0 : World) (χ0 : Nat → Nat) (P : Numbering_Size) (O : Numbering_Name) (S : Int) (Q : Bool → Prop) (hm : VC3 P O S Q) :
    Ret Try.prog 3 #[.agg #[.int .i64 P.Ops, .int .i64 P.States], .agg #[.int .i64 O.Kind, .int .i64 O.A, .int .i64 O.B], .int .i64 S] xnone w0 χ0 (fun w χ' v => ∃ r, Q r ∧ v = .bool r) := by
  unfold VC3 at hm
  refine enter Try.func3 rfl (vals := [.agg #[.int .i64 P.Ops, .int .i64 P.States], .agg #[.int .i64 O.Kind, .int .i64 O.A, .int .i64 O.B], .int .i64 S]) (by kernel_rfl) ?_
  intro ρ a hS hO hM
  clear hM
  refine regM T hS (sp := []) (ks := [2, 3, 4]) (bs := [4, 5]) (sy' := ⟨[(2, I S), (3, Pt 4 0), (4, Pt 5 0)], [(4, (23, [I P.Ops, I P.States])), (5, (25, [I O.Kind, I O.A, I O.B]))]⟩) (by kernel_rfl) ?_
  intro ρ a w185 χ186 hS hE
  replace hO := hO.mv hE rfl rfl
  clear hE
  refine wseq ?_
  refine regO ?_
  refine opsP T hS 1 (sp := []) (ks := [2, 3, 4, 10]) (bs := [4, 5]) (sy' := ⟨[(2, I S), (3, Pt 4 0), (4, Pt 5 0), (10, V (.agg #[.int .i64 P.Ops, .int .i64 P.States]))], [(4, (23, [I P.Ops, I P.States])), (5, (25, [I O.Kind, I O.A, I O.B]))]⟩) (by kernel_rfl) ?_
  intro a hS
  refine op1 (call hS (by kernel_rfl) (by kernel_rfl) hb17 (by kernel_rfl) (fun _ _ => rfl) (k17 _ _ P) ?_)
  intro v101 a w102 χ103 hE hp hS
  replace hO := hO.mv hE rfl rfl
  clear hE
  obtain ⟨r104, hr⟩ : ∃ r, law31_small P = r := ⟨_, rfl⟩
  replace hm := hm r104 hr
  rw [hr] at hp
  clear hr
  subst hp
  refine endP T hS (sp := []) (ks := [2, 3, 4, 12]) (bs := [4, 5]) (sy' := ⟨[(2, I S), (3, Pt 4 0), (4, Pt 5 0), (12, B (!r104))], [(4, (23, [I P.Ops, I P.States])), (5, (25, [I O.Kind, I O.A, I O.B]))]⟩) (by kernel_rfl) ?_
  intro a hS
  refine wcond hS (b := (!r104)) (by kernel_rfl) (fun hb => ?_) (fun hb => ?_)
  · replace hm := hm.1 hb
    refine regO ?_
    refine op1 (call hS (by kernel_rfl) (by kernel_rfl) hb18 (by kernel_rfl) (fun _ _ => rfl) (k18 _ _) ?_)
    intro v105 a w106 χ107 hE hp hS
    replace hO := hO.mv hE rfl rfl
    clear hE
    obtain ⟨r108, hr⟩ : ∃ r, law31_awake = r := ⟨_, rfl⟩
    replace hm := hm r108 hr
    rw [hr] at hp
    clear hr
    subst hp
    refine endP T hS (sp := []) (ks := [6]) (bs := []) (sy' := ⟨[(6, B r108)], []⟩) (by kernel_rfl) ?_
    intro a hS
    refine wret ?_
    exact fin T hS hO (fun c => c) rfl (r := [.bool r108]) (by kernel_rfl) (fun χ' hM hC => ⟨r108, hm, rfl⟩)
  · replace hm := hm.2 hb
    refine wskip ?_
    refine regO ?_
    refine opsP T hS 4 (sp := []) (ks := [2, 3, 4, 15, 17]) (bs := [4, 5]) (sy' := ⟨[(2, I S), (3, Pt 4 0), (4, Pt 5 0), (15, I P.Ops), (17, I P.States)], [(4, (23, [I P.Ops, I P.States])), (5, (25, [I O.Kind, I O.A, I O.B]))]⟩) (by kernel_rfl) ?_
    intro a hS
    refine op1 (call hS (by kernel_rfl) (by kernel_rfl) hb19 (by kernel_rfl) (fun _ _ => rfl) (k19 _ _ P.Ops P.States 0) ?_)
    intro v109 a w110 χ111 hE hp hS
    replace hO := hO.mv hE rfl rfl
    clear hE
    obtain ⟨a113, c114, hp, h115⟩ := hp
    obtain ⟨r112, hr⟩ : ∃ r, ref31_Names P.Ops P.States = r := ⟨_, rfl⟩
    replace hm := hm r112 hr
    rw [hr] at hp h115
    clear hr
    subst hp
    replace h115 := h115.rs0
    replace hm := hm (h115.sm (by kernel_rfl))
    refine endP T hS (sp := []) (ks := [2, 3, 4, 7]) (bs := [4, 5]) (sy' := ⟨[(2, I S), (3, Pt 4 0), (4, Pt 5 0), (7, V (.slice a113 r112.length c114))], [(4, (23, [I P.Ops, I P.States])), (5, (25, [I O.Kind, I O.A, I O.B]))]⟩) (by kernel_rfl) ?_
    intro a hS
    refine regO ?_
    refine opsP T hS 2 (sp := []) (ks := [2, 3, 4, 7, 20, 21]) (bs := [4, 5]) (sy' := ⟨[(2, I S), (3, Pt 4 0), (4, Pt 5 0), (7, V (.slice a113 r112.length c114)), (20, V (.agg #[.int .i64 P.Ops, .int .i64 P.States])), (21, I S)], [(4, (23, [I P.Ops, I P.States])), (5, (25, [I O.Kind, I O.A, I O.B]))]⟩) (by kernel_rfl) ?_
    intro a hS
    refine op1 (call hS (by kernel_rfl) (by kernel_rfl) hb20 (by kernel_rfl) (fun _ _ => rfl) (k20 _ _ P S) ?_)
    intro v116 a w117 χ118 hE hp hS
    replace hO := hO.mv hE rfl rfl
    replace h115 := h115.mv hE rfl
    clear hE
    obtain ⟨r119, hr⟩ : ∃ r, numbering_Of P S = r := ⟨_, rfl⟩
    replace hm := hm r119 hr
    rw [hr] at hp
    clear hr
    subst hp
    refine endM T hS (sp := []) (ks := [2, 3, 4, 7, 8, 9]) (bs := [4, 5, 9]) (sy' := ⟨[(2, I S), (3, Pt 4 0), (4, Pt 5 0), (7, V (.slice a113 r112.length c114)), (8, Pt 9 0), (9, B r119.2)], [(4, (23, [I P.Ops, I P.States])), (5, (25, [I O.Kind, I O.A, I O.B])), (9, (25, [I r119.1.Kind, I r119.1.A, I r119.1.B]))]⟩) (by kernel_rfl) ?_
    intro ρ a w183 χ184 hS hE
    replace hO := hO.mv hE rfl rfl
    replace h115 := h115.mv hE rfl
    clear hE
    refine wseq ?_
    refine wcut (fun a w => ∃ (ρ : Nat → Nat) (χ : Nat → Nat) (A_120 : List Ref31_Name) (x_124 : Bool) (a121 : Option Addr) (c122 : Nat), VC3_J1 P O Q A_120 x_124 ∧ St Try.f3.ntmps ⟨[(3, Pt 4 0), (4, Pt 5 0), (7, V (.slice a121 A_120.length c122)), (79, B x_124)], [(4, (23, [I P.Ops, I P.States])), (5, (25, [I O.Kind, I O.A, I O.B]))]⟩ ρ a w χ ∧ Old w0 χ0 w χ ∧ RS tRef31_Name w χ a121 A_120 c122) ?_ ?_
    · refine drawn [4, 5, 9] mixed hS ?_
      intro w150 hS hE hD hH
      replace hO := hO.mv hE rfl rfl
      replace h115 := h115.mv hE rfl
      clear hE
      refine take T [0, 1, 2, 3] [4, 5, 9] [2, 3, 4, 7, 8, 9, 25, 28] hS (by kernel_rfl) (by kernel_rfl) (by kernel_rfl) hH (listed' := #[true, true, true, true, false, false, false, false, false, false, false, false, false, false, false, false, false, false, false, false, false, false, false, false, false, false, false, false, false, false, false, false, false, false, false, false, false, false, false, false, false, false, false, false, false, false, false, false, false, false, false, false, false, false, false]) (fuel := 51) (sy' := ⟨[(2, I S), (3, Pt 4 0), (4, Pt 5 0), (7, V (.slice a113 r112.length c114)), (8, Pt 9 0), (9, B r119.2), (25, B r119.2), (28, B (decide (S ≥ 1)))], [(4, (23, [I P.Ops, I P.States])), (5, (25, [I O.Kind, I O.A, I O.B])), (9, (25, [I r119.1.Kind, I r119.1.A, I r119.1.B]))]⟩) (by kernel_rfl) (by rfl) ?_
      intro a hS
      rcases Bool.eq_false_or_eq_true (decide (S ≥ 1)) with hb | hb
      · replace hS := hS.lit (t := 28) (by kernel_rfl) hb
        replace hm := hm.1 hb
        refine take T [4, 5, 6, 7, 8, 9, 10] [4, 5, 9] [2, 3, 4, 7, 8, 9, 35] hS (by kernel_rfl) (by kernel_rfl) (by kernel_rfl) hH (listed' := #[true, true, true, true, true, true, true, true, true, true, true, false, false, false, false, false, false, false, false, false, false, false, false, false, false, false, false, false, false, false, false, false, false, false, false, false, false, false, false, false, false, false, false, false, false, false, false, false, false, false, false, false, false, false, false]) (fuel := 44) (sy' := ⟨[(2, I S), (3, Pt 4 0), (4, Pt 5 0), (7, V (.slice a113 r112.length c114)), (8, Pt 9 0), (9, B r119.2), (35, B (r119.2 != (decide (S ≤ ((r112.length : Nat) : Int)))))], [(4, (23, [I P.Ops, I P.States])), (5, (25, [I O.Kind, I O.A, I O.B])), (9, (25, [I r119.1.Kind, I r119.1.A, I r119.1.B]))]⟩) (by kernel_rfl) (by rfl) ?_
        intro a hS
        rcases Bool.eq_false_or_eq_true (r119.2 != (decide (S ≤ ((r112.length : Nat) : Int)))) with hb | hb
        · replace hS := hS.lit (t := 35) (by kernel_rfl) hb
          replace hm := hm.1 hb
          refine take T [11, 12, 13, 15, 16, 14, 17, 18, 19, 20, 21, 22, 23, 25, 26, 24, 27, 28, 29, 30, 31, 32, 33, 34, 36, 37, 35, 38, 39, 40, 41, 42, 43, 44, 45, 46, 47, 48, 49, 50, 51, 52, 53, 54] [4, 5, 9] [3, 4, 7, 79] hS (by kernel_rfl) (by kernel_rfl) (by kernel_rfl) hH (listed' := #[true, true, true, true, true, true, true, true, true, true, true, true, true, true, true, true, true, true, true, true, true, true, true, true, true, true, true, true, true, true, true, true, true, true, true, true, true, true, true, true, true, true, true, true, true, true, true, true, true, true, true, true, true, true, true]) (fuel := 0) (sy' := ⟨[(3, Pt 4 0), (4, Pt 5 0), (7, V (.slice a113 r112.length c114)), (79, B true)], [(4, (23, [I P.Ops, I P.States])), (5, (25, [I O.Kind, I O.A, I O.B])), (9, (25, [I r119.1.Kind, I r119.1.A, I r119.1.B]))]⟩) (by kernel_rfl) (by rfl) ?_
          intro a hS
          refine drawnDone (by kernel_rfl) ?_
          clear hD hH
          replace hS := hS.sel [3, 4, 7, 79] [4, 5] (sy' := ⟨[(3, Pt 4 0), (4, Pt 5 0), (7, V (.slice a113 r112.length c114)), (79, B true)], [(4, (23, [I P.Ops, I P.States])), (5, (25, [I O.Kind, I O.A, I O.B]))]⟩) (by kernel_rfl)
          exact ⟨ρ, _, r112, true, a113, c114, hm, hS.sel [3, 4, 7, 79] [4, 5] (by kernel_rfl), hO, h115⟩
        · replace hS := hS.lit (t := 35) (by kernel_rfl) hb
          replace hm := hm.2 hb
          refine take T [11, 12] [4, 5, 9] [2, 3, 4, 7, 8, 9, 35, 37] hS (by kernel_rfl) (by kernel_rfl) (by kernel_rfl) hH (listed' := #[true, true, true, true, true, true, true, true, true, true, true, true, true, false, false, false, false, false, false, false, false, false, false, false, false, false, false, false, false, false, false, false, false, false, false, false, false, false, false, false, false, false, false, false, false, false, false, false, false, false, false, false, false, false, false]) (fuel := 42) (sy' := ⟨[(2, I S), (3, Pt 4 0), (4, Pt 5 0), (7, V (.slice a113 r112.length c114)), (8, Pt 9 0), (9, B r119.2), (35, B false), (37, B r119.2)], [(4, (23, [I P.Ops, I P.States])), (5, (25, [I O.Kind, I O.A, I O.B])), (9, (25, [I r119.1.Kind, I r119.1.A, I r119.1.B]))]⟩) (by kernel_rfl) (by rfl) ?_
          intro a hS
          rcases Bool.eq_false_or_eq_true r119.2 with hb | hb
          · replace hS := hS.lit (t := 37) (by kernel_rfl) hb
            replace hm := hm.1 hb
            refine take T [13, 15, 16, 14, 17] [4, 5, 9] [2, 3, 4, 7, 8, 9, 35, 37, 39, 40, 42] hS (by kernel_rfl) (by kernel_rfl) (by kernel_rfl) hH (listed' := #[true, true, true, true, true, true, true, true, true, true, true, true, true, true, true, true, true, true, false, false, false, false, false, false, false, false, false, false, false, false, false, false, false, false, false, false, false, false, false, false, false, false, false, false, false, false, false, false, false, false, false, false, false, false, false]) (fuel := 37) (sy' := ⟨[(2, I S), (3, Pt 4 0), (4, Pt 5 0), (7, V (.slice a113 r112.length c114)), (8, Pt 9 0), (9, B r119.2), (35, B false), (37, B true), (39, I r119.1.Kind), (40, V (.slice a113 r112.length c114)), (42, I (IntKind.i64.wrap (S - 1)))], [(4, (23, [I P.Ops, I P.States])), (5, (25, [I O.Kind, I O.A, I O.B])), (9, (25, [I r119.1.Kind, I r119.1.A, I r119.1.B]))]⟩) (by kernel_rfl) (by rfl) ?_
            intro a hS
            obtain ⟨hq, hm⟩ := hm
            refine dindex (e := 32) (k := .i64) T 18 hS (by kernel_rfl) (by kernel_rfl) (by kernel_rfl) (by rfl) (by kernel_rfl) hH (by kernel_rfl) (by kernel_rfl) h115 (by kernel_rfl) (by kernel_rfl) hq.1 hq.2 ?_
            intro A151 a h152 hS
            clear hq
            have h152b := h152.here
            refine dfieldA (off := 0) (fsz := 1) (ft := 3) (TF := tI) (y := (gi r112 (IntKind.i64.wrap (S - 1))).Kind) 19 T hS (by kernel_rfl) (by kernel_rfl) (by kernel_rfl) (by rfl) (by kernel_rfl) hH (by kernel_rfl) h152 (by kernel_rfl) (by kernel_rfl) (by kernel_rfl) (fun cs h => Ref31_Name_f0 h) ?_
            intro A153 a h154 hbl hS
            have h154b := h152b
            rw [← hbl] at h154b
            clear hbl
            refine dload1 T 20 hS (by kernel_rfl) (by kernel_rfl) (by kernel_rfl) (by rfl) (by kernel_rfl) hH (by kernel_rfl) h154 h154b rfl (by kernel_rfl) ?_
            intro v155 a hv hS
            cases hv
            refine take T [21, 22] [4, 5, 9] [2, 3, 4, 7, 8, 9, 35, 37, 47] hS (by kernel_rfl) (by kernel_rfl) (by kernel_rfl) hH (listed' := #[true, true, true, true, true, true, true, true, true, true, true, true, true, true, true, true, true, true, true, true, true, true, true, false, false, false, false, false, false, false, false, false, false, false, false, false, false, false, false, false, false, false, false, false, false, false, false, false, false, false, false, false, false, false, false]) (fuel := 32) (sy' := ⟨[(2, I S), (3, Pt 4 0), (4, Pt 5 0), (7, V (.slice a113 r112.length c114)), (8, Pt 9 0), (9, B r119.2), (35, B false), (37, B true), (47, B (r119.1.Kind != ((gi r112 (IntKind.i64.wrap (S - 1))).Kind)))], [(4, (23, [I P.Ops, I P.States])), (5, (25, [I O.Kind, I O.A, I O.B])), (9, (25, [I r119.1.Kind, I r119.1.A, I r119.1.B]))]⟩) (by kernel_rfl) (by rfl) ?_
            intro a hS
            rcases Bool.eq_false_or_eq_true (r119.1.Kind != ((gi r112 (IntKind.i64.wrap (S - 1))).Kind)) with hb | hb
            · replace hS := hS.lit (t := 47) (by kernel_rfl) hb
              replace hm := hm.1 hb
              refine take T [23, 25, 26, 24, 27, 28, 29, 30, 31, 32, 33, 34, 36, 37, 35, 38, 39, 40, 41, 42, 43, 44, 45, 46, 47, 48, 49, 50, 51, 52, 53, 54] [4, 5, 9] [3, 4, 7, 79] hS (by kernel_rfl) (by kernel_rfl) (by kernel_rfl) hH (listed' := #[true, true, true, true, true, true, true, true, true, true, true, true, true, true, true, true, true, true, true, true, true, true, true, true, true, true, true, true, true, true, true, true, true, true, true, true, true, true, true, true, true, true, true, true, true, true, true, true, true, true, true, true, true, true, true]) (fuel := 0) (sy' := ⟨[(3, Pt 4 0), (4, Pt 5 0), (7, V (.slice a113 r112.length c114)), (79, B true)], [(4, (23, [I P.Ops, I P.States])), (5, (25, [I O.Kind, I O.A, I O.B])), (9, (25, [I r119.1.Kind, I r119.1.A, I r119.1.B]))]⟩) (by kernel_rfl) (by rfl) ?_
              intro a hS
              refine drawnDone (by kernel_rfl) ?_
              clear hD hH
              replace hS := hS.sel [3, 4, 7, 79] [4, 5] (sy' := ⟨[(3, Pt 4 0), (4, Pt 5 0), (7, V (.slice a113 r112.length c114)), (79, B true)], [(4, (23, [I P.Ops, I P.States])), (5, (25, [I O.Kind, I O.A, I O.B]))]⟩) (by kernel_rfl)
              exact ⟨ρ, _, r112, true, a113, c114, hm, hS.sel [3, 4, 7, 79] [4, 5] (by kernel_rfl), hO, h115⟩
            · replace hS := hS.lit (t := 47) (by kernel_rfl) hb
              replace hm := hm.2 hb
              refine take T [23, 25, 26, 24, 27] [4, 5, 9] [2, 3, 4, 7, 8, 9, 35, 37, 47, 49, 50, 52] hS (by kernel_rfl) (by kernel_rfl) (by kernel_rfl) hH (listed' := #[true, true, true, true, true, true, true, true, true, true, true, true, true, true, true, true, true, true, true, true, true, true, true, true, true, true, true, true, false, false, false, false, false, false, false, false, false, false, false, false, false, false, false, false, false, false, false, false, false, false, false, false, false, false, false]) (fuel := 27) (sy' := ⟨[(2, I S), (3, Pt 4 0), (4, Pt 5 0), (7, V (.slice a113 r112.length c114)), (8, Pt 9 0), (9, B r119.2), (35, B false), (37, B true), (47, B false), (49, I r119.1.A), (50, V (.slice a113 r112.length c114)), (52, I (IntKind.i64.wrap (S - 1)))], [(4, (23, [I P.Ops, I P.States])), (5, (25, [I O.Kind, I O.A, I O.B])), (9, (25, [I r119.1.Kind, I r119.1.A, I r119.1.B]))]⟩) (by kernel_rfl) (by rfl) ?_
              intro a hS
              obtain ⟨hq, hm⟩ := hm
              refine dindex (e := 32) (k := .i64) T 28 hS (by kernel_rfl) (by kernel_rfl) (by kernel_rfl) (by rfl) (by kernel_rfl) hH (by kernel_rfl) (by kernel_rfl) h115 (by kernel_rfl) (by kernel_rfl) hq.1 hq.2 ?_
              intro A156 a h157 hS
              clear hq
              have h157b := h157.here
              refine dfieldA (off := 1) (fsz := 1) (ft := 3) (TF := tI) (y := (gi r112 (IntKind.i64.wrap (S - 1))).A) 29 T hS (by kernel_rfl) (by kernel_rfl) (by kernel_rfl) (by rfl) (by kernel_rfl) hH (by kernel_rfl) h157 (by kernel_rfl) (by kernel_rfl) (by kernel_rfl) (fun cs h => Ref31_Name_f1 h) ?_
              intro A158 a h159 hbl hS
              have h159b := h157b
              rw [← hbl] at h159b
              clear hbl
              refine dload1 T 30 hS (by kernel_rfl) (by kernel_rfl) (by kernel_rfl) (by rfl) (by kernel_rfl) hH (by kernel_rfl) h159 h159b rfl (by kernel_rfl) ?_
              intro v160 a hv hS
              cases hv
              refine take T [31, 32, 33] [4, 5, 9] [2, 3, 4, 7, 8, 9, 35, 37, 58] hS (by kernel_rfl) (by kernel_rfl) (by kernel_rfl) hH (listed' := #[true, true, true, true, true, true, true, true, true, true, true, true, true, true, true, true, true, true, true, true, true, true, true, true, true, true, true, true, true, true, true, true, true, true, false, false, false, false, false, false, false, false, false, false, false, false, false, false, false, false, false, false, false, false, false]) (fuel := 21) (sy' := ⟨[(2, I S), (3, Pt 4 0), (4, Pt 5 0), (7, V (.slice a113 r112.length c114)), (8, Pt 9 0), (9, B r119.2), (35, B false), (37, B true), (58, B (r119.1.A != ((gi r112 (IntKind.i64.wrap (S - 1))).A)))], [(4, (23, [I P.Ops, I P.States])), (5, (25, [I O.Kind, I O.A, I O.B])), (9, (25, [I r119.1.Kind, I r119.1.A, I r119.1.B]))]⟩) (by kernel_rfl) (by rfl) ?_
              intro a hS
              rcases Bool.eq_false_or_eq_true (r119.1.A != ((gi r112 (IntKind.i64.wrap (S - 1))).A)) with hb | hb
              · replace hS := hS.lit (t := 58) (by kernel_rfl) hb
                replace hm := hm.1 hb
                refine take T [34, 36, 37, 35, 38, 39, 40, 41, 42, 43, 44, 45, 46, 47, 48, 49, 50, 51, 52, 53, 54] [4, 5, 9] [3, 4, 7, 79] hS (by kernel_rfl) (by kernel_rfl) (by kernel_rfl) hH (listed' := #[true, true, true, true, true, true, true, true, true, true, true, true, true, true, true, true, true, true, true, true, true, true, true, true, true, true, true, true, true, true, true, true, true, true, true, true, true, true, true, true, true, true, true, true, true, true, true, true, true, true, true, true, true, true, true]) (fuel := 0) (sy' := ⟨[(3, Pt 4 0), (4, Pt 5 0), (7, V (.slice a113 r112.length c114)), (79, B true)], [(4, (23, [I P.Ops, I P.States])), (5, (25, [I O.Kind, I O.A, I O.B])), (9, (25, [I r119.1.Kind, I r119.1.A, I r119.1.B]))]⟩) (by kernel_rfl) (by rfl) ?_
                intro a hS
                refine drawnDone (by kernel_rfl) ?_
                clear hD hH
                replace hS := hS.sel [3, 4, 7, 79] [4, 5] (sy' := ⟨[(3, Pt 4 0), (4, Pt 5 0), (7, V (.slice a113 r112.length c114)), (79, B true)], [(4, (23, [I P.Ops, I P.States])), (5, (25, [I O.Kind, I O.A, I O.B]))]⟩) (by kernel_rfl)
                exact ⟨ρ, _, r112, true, a113, c114, hm, hS.sel [3, 4, 7, 79] [4, 5] (by kernel_rfl), hO, h115⟩
              · replace hS := hS.lit (t := 58) (by kernel_rfl) hb
                replace hm := hm.2 hb
                refine take T [34, 36, 37, 35, 38] [4, 5, 9] [3, 4, 7, 8, 9, 35, 37, 58, 60, 61, 63] hS (by kernel_rfl) (by kernel_rfl) (by kernel_rfl) hH (listed' := #[true, true, true, true, true, true, true, true, true, true, true, true, true, true, true, true, true, true, true, true, true, true, true, true, true, true, true, true, true, true, true, true, true, true, true, true, true, true, true, false, false, false, false, false, false, false, false, false, false, false, false, false, false, false, false]) (fuel := 16) (sy' := ⟨[(3, Pt 4 0), (4, Pt 5 0), (7, V (.slice a113 r112.length c114)), (8, Pt 9 0), (9, B r119.2), (35, B false), (37, B true), (58, B false), (60, I r119.1.B), (61, V (.slice a113 r112.length c114)), (63, I (IntKind.i64.wrap (S - 1)))], [(4, (23, [I P.Ops, I P.States])), (5, (25, [I O.Kind, I O.A, I O.B])), (9, (25, [I r119.1.Kind, I r119.1.A, I r119.1.B]))]⟩) (by kernel_rfl) (by rfl) ?_
                intro a hS
                obtain ⟨hq, hm⟩ := hm
                refine dindex (e := 32) (k := .i64) T 39 hS (by kernel_rfl) (by kernel_rfl) (by kernel_rfl) (by rfl) (by kernel_rfl) hH (by kernel_rfl) (by kernel_rfl) h115 (by kernel_rfl) (by kernel_rfl) hq.1 hq.2 ?_
                intro A161 a h162 hS
                clear hq
                have h162b := h162.here
                refine dfieldA (off := 2) (fsz := 1) (ft := 3) (TF := tI) (y := (gi r112 (IntKind.i64.wrap (S - 1))).B) 40 T hS (by kernel_rfl) (by kernel_rfl) (by kernel_rfl) (by rfl) (by kernel_rfl) hH (by kernel_rfl) h162 (by kernel_rfl) (by kernel_rfl) (by kernel_rfl) (fun cs h => Ref31_Name_f2 h) ?_
                intro A163 a h164 hbl hS
                have h164b := h162b
                rw [← hbl] at h164b
                clear hbl
                refine dload1 T 41 hS (by kernel_rfl) (by kernel_rfl) (by kernel_rfl) (by rfl) (by kernel_rfl) hH (by kernel_rfl) h164 h164b rfl (by kernel_rfl) ?_
                intro v165 a hv hS
                cases hv
                refine take T [42, 43, 44, 45, 46] [4, 5, 9] [3, 4, 7, 8, 9, 71] hS (by kernel_rfl) (by kernel_rfl) (by kernel_rfl) hH (listed' := #[true, true, true, true, true, true, true, true, true, true, true, true, true, true, true, true, true, true, true, true, true, true, true, true, true, true, true, true, true, true, true, true, true, true, true, true, true, true, true, true, true, true, true, true, true, true, true, false, false, false, false, false, false, false, false]) (fuel := 8) (sy' := ⟨[(3, Pt 4 0), (4, Pt 5 0), (7, V (.slice a113 r112.length c114)), (8, Pt 9 0), (9, B r119.2), (71, B (r119.1.B != ((gi r112 (IntKind.i64.wrap (S - 1))).B)))], [(4, (23, [I P.Ops, I P.States])), (5, (25, [I O.Kind, I O.A, I O.B])), (9, (25, [I r119.1.Kind, I r119.1.A, I r119.1.B]))]⟩) (by kernel_rfl) (by rfl) ?_
                intro a hS
                rcases Bool.eq_false_or_eq_true (r119.1.B != ((gi r112 (IntKind.i64.wrap (S - 1))).B)) with hb | hb
                · replace hS := hS.lit (t := 71) (by kernel_rfl) hb
                  replace hm := hm.1 hb
                  refine take T [47, 48, 49, 50, 51, 52, 53, 54] [4, 5, 9] [3, 4, 7, 79] hS (by kernel_rfl) (by kernel_rfl) (by kernel_rfl) hH (listed' := #[true, true, true, true, true, true, true, true, true, true, true, true, true, true, true, true, true, true, true, true, true, true, true, true, true, true, true, true, true, true, true, true, true, true, true, true, true, true, true, true, true, true, true, true, true, true, true, true, true, true, true, true, true, true, true]) (fuel := 0) (sy' := ⟨[(3, Pt 4 0), (4, Pt 5 0), (7, V (.slice a113 r112.length c114)), (79, B true)], [(4, (23, [I P.Ops, I P.States])), (5, (25, [I O.Kind, I O.A, I O.B])), (9, (25, [I r119.1.Kind, I r119.1.A, I r119.1.B]))]⟩) (by kernel_rfl) (by rfl) ?_
                  intro a hS
                  refine drawnDone (by kernel_rfl) ?_
                  clear hD hH
                  replace hS := hS.sel [3, 4, 7, 79] [4, 5] (sy' := ⟨[(3, Pt 4 0), (4, Pt 5 0), (7, V (.slice a113 r112.length c114)), (79, B true)], [(4, (23, [I P.Ops, I P.States])), (5, (25, [I O.Kind, I O.A, I O.B]))]⟩) (by kernel_rfl)
                  exact ⟨ρ, _, r112, true, a113, c114, hm, hS.sel [3, 4, 7, 79] [4, 5] (by kernel_rfl), hO, h115⟩
                · replace hS := hS.lit (t := 71) (by kernel_rfl) hb
                  replace hm := hm.2 hb
                  refine take T [47, 48, 49] [4, 5, 9] [3, 4, 7, 8, 71, 74] hS (by kernel_rfl) (by kernel_rfl) (by kernel_rfl) hH (listed' := #[true, true, true, true, true, true, true, true, true, true, true, true, true, true, true, true, true, true, true, true, true, true, true, true, true, true, true, true, true, true, true, true, true, true, true, true, true, true, true, true, true, true, true, true, true, true, true, true, true, true, false, false, false, false, false]) (fuel := 5) (sy' := ⟨[(3, Pt 4 0), (4, Pt 5 0), (7, V (.slice a113 r112.length c114)), (8, Pt 9 0), (71, B false), (74, B (!r119.2))], [(4, (23, [I P.Ops, I P.States])), (5, (25, [I O.Kind, I O.A, I O.B])), (9, (25, [I r119.1.Kind, I r119.1.A, I r119.1.B]))]⟩) (by kernel_rfl) (by rfl) ?_
                  intro a hS
                  rcases Bool.eq_false_or_eq_true (!r119.2) with hb | hb
                  · replace hS := hS.lit (t := 74) (by kernel_rfl) hb
                    replace hm := hm.1 hb
                    refine take T [50, 51] [4, 5, 9] [3, 4, 7, 71, 74, 75, 76] hS (by kernel_rfl) (by kernel_rfl) (by kernel_rfl) hH (listed' := #[true, true, true, true, true, true, true, true, true, true, true, true, true, true, true, true, true, true, true, true, true, true, true, true, true, true, true, true, true, true, true, true, true, true, true, true, true, true, true, true, true, true, true, true, true, true, true, true, true, true, true, true, false, false, false]) (fuel := 3) (sy' := ⟨[(3, Pt 4 0), (4, Pt 5 0), (7, V (.slice a113 r112.length c114)), (71, B false), (74, B true), (75, V (.agg #[.int .i64 r119.1.Kind, .int .i64 r119.1.A, .int .i64 r119.1.B])), (76, V (.agg #[.int .i64 0, .int .i64 0, .int .i64 0]))], [(4, (23, [I P.Ops, I P.States])), (5, (25, [I O.Kind, I O.A, I O.B])), (9, (25, [I r119.1.Kind, I r119.1.A, I r119.1.B]))]⟩) (by kernel_rfl) (by rfl) ?_
                    intro a hS
                    refine dstructEq (op := .neq) (xs := [.int .i64 r119.1.Kind, .int .i64 r119.1.A, .int .i64 r119.1.B]) (ys := [.int .i64 0, .int .i64 0, .int .i64 0]) (r := (r119.1.Kind == 0 && (r119.1.A == 0 && (r119.1.B == 0 && true)))) (b := (!(r119.1.Kind == 0 && (r119.1.A == 0 && (r119.1.B == 0 && true))))) 52 T hS (by kernel_rfl) (by kernel_rfl) (by kernel_rfl) (by rfl) (by kernel_rfl) hH (by kernel_rfl) (by kernel_rfl) (by kernel_rfl) (by kernel_rfl) (by kernel_rfl) (by kernel_rfl) ?_
                    intro a hS
                    refine take T [53, 54] [4, 5, 9] [3, 4, 7, 79] hS (by kernel_rfl) (by kernel_rfl) (by kernel_rfl) hH (listed' := #[true, true, true, true, true, true, true, true, true, true, true, true, true, true, true, true, true, true, true, true, true, true, true, true, true, true, true, true, true, true, true, true, true, true, true, true, true, true, true, true, true, true, true, true, true, true, true, true, true, true, true, true, true, true, true]) (fuel := 0) (sy' := ⟨[(3, Pt 4 0), (4, Pt 5 0), (7, V (.slice a113 r112.length c114)), (79, B (!(r119.1.Kind == 0 && (r119.1.A == 0 && (r119.1.B == 0 && true)))))], [(4, (23, [I P.Ops, I P.States])), (5, (25, [I O.Kind, I O.A, I O.B])), (9, (25, [I r119.1.Kind, I r119.1.A, I r119.1.B]))]⟩) (by kernel_rfl) (by rfl) ?_
                    intro a hS
                    refine drawnDone (by kernel_rfl) ?_
                    clear hD hH
                    replace hS := hS.sel [3, 4, 7, 79] [4, 5] (sy' := ⟨[(3, Pt 4 0), (4, Pt 5 0), (7, V (.slice a113 r112.length c114)), (79, B (!(r119.1.Kind == 0 && (r119.1.A == 0 && (r119.1.B == 0 && true)))))], [(4, (23, [I P.Ops, I P.States])), (5, (25, [I O.Kind, I O.A, I O.B]))]⟩) (by kernel_rfl)
                    exact ⟨ρ, _, r112, (!(r119.1.Kind == 0 && (r119.1.A == 0 && (r119.1.B == 0 && true)))), a113, c114, hm, hS.sel [3, 4, 7, 79] [4, 5] (by kernel_rfl), hO, h115⟩
                  · replace hS := hS.lit (t := 74) (by kernel_rfl) hb
                    replace hm := hm.2 hb
                    refine take T [50, 51, 52, 53, 54] [4, 5, 9] [3, 4, 7, 79] hS (by kernel_rfl) (by kernel_rfl) (by kernel_rfl) hH (listed' := #[true, true, true, true, true, true, true, true, true, true, true, true, true, true, true, true, true, true, true, true, true, true, true, true, true, true, true, true, true, true, true, true, true, true, true, true, true, true, true, true, true, true, true, true, true, true, true, true, true, true, true, true, true, true, true]) (fuel := 0) (sy' := ⟨[(3, Pt 4 0), (4, Pt 5 0), (7, V (.slice a113 r112.length c114)), (79, B false)], [(4, (23, [I P.Ops, I P.States])), (5, (25, [I O.Kind, I O.A, I O.B])), (9, (25, [I r119.1.Kind, I r119.1.A, I r119.1.B]))]⟩) (by kernel_rfl) (by rfl) ?_
                    intro a hS
                    refine drawnDone (by kernel_rfl) ?_
                    clear hD hH
                    replace hS := hS.sel [3, 4, 7, 79] [4, 5] (sy' := ⟨[(3, Pt 4 0), (4, Pt 5 0), (7, V (.slice a113 r112.length c114)), (79, B false)], [(4, (23, [I P.Ops, I P.States])), (5, (25, [I O.Kind, I O.A, I O.B]))]⟩) (by kernel_rfl)
                    exact ⟨ρ, _, r112, false, a113, c114, hm, hS.sel [3, 4, 7, 79] [4, 5] (by kernel_rfl), hO, h115⟩
          · replace hS := hS.lit (t := 37) (by kernel_rfl) hb
            replace hm := hm.2 hb
            refine take T [13, 15, 16, 14, 17, 18, 19, 20, 21, 22, 23, 25, 26, 24, 27, 28, 29, 30, 31, 32, 33, 34, 36, 37, 35, 38, 39, 40, 41, 42, 43, 44, 45, 46, 47, 48, 49] [4, 5, 9] [3, 4, 7, 8, 71, 74] hS (by kernel_rfl) (by kernel_rfl) (by kernel_rfl) hH (listed' := #[true, true, true, true, true, true, true, true, true, true, true, true, true, true, true, true, true, true, true, true, true, true, true, true, true, true, true, true, true, true, true, true, true, true, true, true, true, true, true, true, true, true, true, true, true, true, true, true, true, true, false, false, false, false, false]) (fuel := 5) (sy' := ⟨[(3, Pt 4 0), (4, Pt 5 0), (7, V (.slice a113 r112.length c114)), (8, Pt 9 0), (71, B false), (74, B (!r119.2))], [(4, (23, [I P.Ops, I P.States])), (5, (25, [I O.Kind, I O.A, I O.B])), (9, (25, [I r119.1.Kind, I r119.1.A, I r119.1.B]))]⟩) (by kernel_rfl) (by rfl) ?_
            intro a hS
            rcases Bool.eq_false_or_eq_true (!r119.2) with hb | hb
            · replace hS := hS.lit (t := 74) (by kernel_rfl) hb
              replace hm := hm.1 hb
              refine take T [50, 51] [4, 5, 9] [3, 4, 7, 71, 74, 75, 76] hS (by kernel_rfl) (by kernel_rfl) (by kernel_rfl) hH (listed' := #[true, true, true, true, true, true, true, true, true, true, true, true, true, true, true, true, true, true, true, true, true, true, true, true, true, true, true, true, true, true, true, true, true, true, true, true, true, true, true, true, true, true, true, true, true, true, true, true, true, true, true, true, false, false, false]) (fuel := 3) (sy' := ⟨[(3, Pt 4 0), (4, Pt 5 0), (7, V (.slice a113 r112.length c114)), (71, B false), (74, B true), (75, V (.agg #[.int .i64 r119.1.Kind, .int .i64 r119.1.A, .int .i64 r119.1.B])), (76, V (.agg #[.int .i64 0, .int .i64 0, .int .i64 0]))], [(4, (23, [I P.Ops, I P.States])), (5, (25, [I O.Kind, I O.A, I O.B])), (9, (25, [I r119.1.Kind, I r119.1.A, I r119.1.B]))]⟩) (by kernel_rfl) (by rfl) ?_
              intro a hS
              refine dstructEq (op := .neq) (xs := [.int .i64 r119.1.Kind, .int .i64 r119.1.A, .int .i64 r119.1.B]) (ys := [.int .i64 0, .int .i64 0, .int .i64 0]) (r := (r119.1.Kind == 0 && (r119.1.A == 0 && (r119.1.B == 0 && true)))) (b := (!(r119.1.Kind == 0 && (r119.1.A == 0 && (r119.1.B == 0 && true))))) 52 T hS (by kernel_rfl) (by kernel_rfl) (by kernel_rfl) (by rfl) (by kernel_rfl) hH (by kernel_rfl) (by kernel_rfl) (by kernel_rfl) (by kernel_rfl) (by kernel_rfl) (by kernel_rfl) ?_
              intro a hS
              refine take T [53, 54] [4, 5, 9] [3, 4, 7, 79] hS (by kernel_rfl) (by kernel_rfl) (by kernel_rfl) hH (listed' := #[true, true, true, true, true, true, true, true, true, true, true, true, true, true, true, true, true, true, true, true, true, true, true, true, true, true, true, true, true, true, true, true, true, true, true, true, true, true, true, true, true, true, true, true, true, true, true, true, true, true, true, true, true, true, true]) (fuel := 0) (sy' := ⟨[(3, Pt 4 0), (4, Pt 5 0), (7, V (.slice a113 r112.length c114)), (79, B (!(r119.1.Kind == 0 && (r119.1.A == 0 && (r119.1.B == 0 && true)))))], [(4, (23, [I P.Ops, I P.States])), (5, (25, [I O.Kind, I O.A, I O.B])), (9, (25, [I r119.1.Kind, I r119.1.A, I r119.1.B]))]⟩) (by kernel_rfl) (by rfl) ?_
              intro a hS
              refine drawnDone (by kernel_rfl) ?_
              clear hD hH
              replace hS := hS.sel [3, 4, 7, 79] [4, 5] (sy' := ⟨[(3, Pt 4 0), (4, Pt 5 0), (7, V (.slice a113 r112.length c114)), (79, B (!(r119.1.Kind == 0 && (r119.1.A == 0 && (r119.1.B == 0 && true)))))], [(4, (23, [I P.Ops, I P.States])), (5, (25, [I O.Kind, I O.A, I O.B]))]⟩) (by kernel_rfl)
              exact ⟨ρ, _, r112, (!(r119.1.Kind == 0 && (r119.1.A == 0 && (r119.1.B == 0 && true)))), a113, c114, hm, hS.sel [3, 4, 7, 79] [4, 5] (by kernel_rfl), hO, h115⟩
            · replace hS := hS.lit (t := 74) (by kernel_rfl) hb
              replace hm := hm.2 hb
              refine take T [50, 51, 52, 53, 54] [4, 5, 9] [3, 4, 7, 79] hS (by kernel_rfl) (by kernel_rfl) (by kernel_rfl) hH (listed' := #[true, true, true, true, true, true, true, true, true, true, true, true, true, true, true, true, true, true, true, true, true, true, true, true, true, true, true, true, true, true, true, true, true, true, true, true, true, true, true, true, true, true, true, true, true, true, true, true, true, true, true, true, true, true, true]) (fuel := 0) (sy' := ⟨[(3, Pt 4 0), (4, Pt 5 0), (7, V (.slice a113 r112.length c114)), (79, B false)], [(4, (23, [I P.Ops, I P.States])), (5, (25, [I O.Kind, I O.A, I O.B])), (9, (25, [I r119.1.Kind, I r119.1.A, I r119.1.B]))]⟩) (by kernel_rfl) (by rfl) ?_
              intro a hS
              refine drawnDone (by kernel_rfl) ?_
              clear hD hH
              replace hS := hS.sel [3, 4, 7, 79] [4, 5] (sy' := ⟨[(3, Pt 4 0), (4, Pt 5 0), (7, V (.slice a113 r112.length c114)), (79, B false)], [(4, (23, [I P.Ops, I P.States])), (5, (25, [I O.Kind, I O.A, I O.B]))]⟩) (by kernel_rfl)
              exact ⟨ρ, _, r112, false, a113, c114, hm, hS.sel [3, 4, 7, 79] [4, 5] (by kernel_rfl), hO, h115⟩
      · replace hS := hS.lit (t := 28) (by kernel_rfl) hb
        replace hm := hm.2 hb
        refine take T [4, 5, 6, 7, 8, 9, 10] [4, 5, 9] [2, 3, 4, 7, 8, 9, 35] hS (by kernel_rfl) (by kernel_rfl) (by kernel_rfl) hH (listed' := #[true, true, true, true, true, true, true, true, true, true, true, false, false, false, false, false, false, false, false, false, false, false, false, false, false, false, false, false, false, false, false, false, false, false, false, false, false, false, false, false, false, false, false, false, false, false, false, false, false, false, false, false, false, false, false]) (fuel := 44) (sy' := ⟨[(2, I S), (3, Pt 4 0), (4, Pt 5 0), (7, V (.slice a113 r112.length c114)), (8, Pt 9 0), (9, B r119.2), (35, B (r119.2 != false))], [(4, (23, [I P.Ops, I P.States])), (5, (25, [I O.Kind, I O.A, I O.B])), (9, (25, [I r119.1.Kind, I r119.1.A, I r119.1.B]))]⟩) (by kernel_rfl) (by rfl) ?_
        intro a hS
        rcases Bool.eq_false_or_eq_true (r119.2 != false) with hb | hb
        · replace hS := hS.lit (t := 35) (by kernel_rfl) hb
          replace hm := hm.1 hb
          refine take T [11, 12, 13, 15, 16, 14, 17, 18, 19, 20, 21, 22, 23, 25, 26, 24, 27, 28, 29, 30, 31, 32, 33, 34, 36, 37, 35, 38, 39, 40, 41, 42, 43, 44, 45, 46, 47, 48, 49, 50, 51, 52, 53, 54] [4, 5, 9] [3, 4, 7, 79] hS (by kernel_rfl) (by kernel_rfl) (by kernel_rfl) hH (listed' := #[true, true, true, true, true, true, true, true, true, true, true, true, true, true, true, true, true, true, true, true, true, true, true, true, true, true, true, true, true, true, true, true, true, true, true, true, true, true, true, true, true, true, true, true, true, true, true, true, true, true, true, true, true, true, true]) (fuel := 0) (sy' := ⟨[(3, Pt 4 0), (4, Pt 5 0), (7, V (.slice a113 r112.length c114)), (79, B true)], [(4, (23, [I P.Ops, I P.States])), (5, (25, [I O.Kind, I O.A, I O.B])), (9, (25, [I r119.1.Kind, I r119.1.A, I r119.1.B]))]⟩) (by kernel_rfl) (by rfl) ?_
          intro a hS
          refine drawnDone (by kernel_rfl) ?_
          clear hD hH
          replace hS := hS.sel [3, 4, 7, 79] [4, 5] (sy' := ⟨[(3, Pt 4 0), (4, Pt 5 0), (7, V (.slice a113 r112.length c114)), (79, B true)], [(4, (23, [I P.Ops, I P.States])), (5, (25, [I O.Kind, I O.A, I O.B]))]⟩) (by kernel_rfl)
          exact ⟨ρ, _, r112, true, a113, c114, hm, hS.sel [3, 4, 7, 79] [4, 5] (by kernel_rfl), hO, h115⟩
        · replace hS := hS.lit (t := 35) (by kernel_rfl) hb
          replace hm := hm.2 hb
          refine take T [11, 12] [4, 5, 9] [2, 3, 4, 7, 8, 9, 35, 37] hS (by kernel_rfl) (by kernel_rfl) (by kernel_rfl) hH (listed' := #[true, true, true, true, true, true, true, true, true, true, true, true, true, false, false, false, false, false, false, false, false, false, false, false, false, false, false, false, false, false, false, false, false, false, false, false, false, false, false, false, false, false, false, false, false, false, false, false, false, false, false, false, false, false, false]) (fuel := 42) (sy' := ⟨[(2, I S), (3, Pt 4 0), (4, Pt 5 0), (7, V (.slice a113 r112.length c114)), (8, Pt 9 0), (9, B r119.2), (35, B false), (37, B r119.2)], [(4, (23, [I P.Ops, I P.States])), (5, (25, [I O.Kind, I O.A, I O.B])), (9, (25, [I r119.1.Kind, I r119.1.A, I r119.1.B]))]⟩) (by kernel_rfl) (by rfl) ?_
          intro a hS
          rcases Bool.eq_false_or_eq_true r119.2 with hb | hb
          · replace hS := hS.lit (t := 37) (by kernel_rfl) hb
            replace hm := hm.1 hb
            refine take T [13, 15, 16, 14, 17] [4, 5, 9] [2, 3, 4, 7, 8, 9, 35, 37, 39, 40, 42] hS (by kernel_rfl) (by kernel_rfl) (by kernel_rfl) hH (listed' := #[true, true, true, true, true, true, true, true, true, true, true, true, true, true, true, true, true, true, false, false, false, false, false, false, false, false, false, false, false, false, false, false, false, false, false, false, false, false, false, false, false, false, false, false, false, false, false, false, false, false, false, false, false, false, false]) (fuel := 37) (sy' := ⟨[(2, I S), (3, Pt 4 0), (4, Pt 5 0), (7, V (.slice a113 r112.length c114)), (8, Pt 9 0), (9, B r119.2), (35, B false), (37, B true), (39, I r119.1.Kind), (40, V (.slice a113 r112.length c114)), (42, I (IntKind.i64.wrap (S - 1)))], [(4, (23, [I P.Ops, I P.States])), (5, (25, [I O.Kind, I O.A, I O.B])), (9, (25, [I r119.1.Kind, I r119.1.A, I r119.1.B]))]⟩) (by kernel_rfl) (by rfl) ?_
            intro a hS
            obtain ⟨hq, hm⟩ := hm
            refine dindex (e := 32) (k := .i64) T 18 hS (by kernel_rfl) (by kernel_rfl) (by kernel_rfl) (by rfl) (by kernel_rfl) hH (by kernel_rfl) (by kernel_rfl) h115 (by kernel_rfl) (by kernel_rfl) hq.1 hq.2 ?_
            intro A166 a h167 hS
            clear hq
            have h167b := h167.here
            refine dfieldA (off := 0) (fsz := 1) (ft := 3) (TF := tI) (y := (gi r112 (IntKind.i64.wrap (S - 1))).Kind) 19 T hS (by kernel_rfl) (by kernel_rfl) (by kernel_rfl) (by rfl) (by kernel_rfl) hH (by kernel_rfl) h167 (by kernel_rfl) (by kernel_rfl) (by kernel_rfl) (fun cs h => Ref31_Name_f0 h) ?_
            intro A168 a h169 hbl hS
            have h169b := h167b
            rw [← hbl] at h169b
            clear hbl
            refine dload1 T 20 hS (by kernel_rfl) (by kernel_rfl) (by kernel_rfl) (by rfl) (by kernel_rfl) hH (by kernel_rfl) h169 h169b rfl (by kernel_rfl) ?_
            intro v170 a hv hS
            cases hv
            refine take T [21, 22] [4, 5, 9] [2, 3, 4, 7, 8, 9, 35, 37, 47] hS (by kernel_rfl) (by kernel_rfl) (by kernel_rfl) hH (listed' := #[true, true, true, true, true, true, true, true, true, true, true, true, true, true, true, true, true, true, true, true, true, true, true, false, false, false, false, false, false, false, false, false, false, false, false, false, false, false, false, false, false, false, false, false, false, false, false, false, false, false, false, false, false, false, false]) (fuel := 32) (sy' := ⟨[(2, I S), (3, Pt 4 0), (4, Pt 5 0), (7, V (.slice a113 r112.length c114)), (8, Pt 9 0), (9, B r119.2), (35, B false), (37, B true), (47, B (r119.1.Kind != ((gi r112 (IntKind.i64.wrap (S - 1))).Kind)))], [(4, (23, [I P.Ops, I P.States])), (5, (25, [I O.Kind, I O.A, I O.B])), (9, (25, [I r119.1.Kind, I r119.1.A, I r119.1.B]))]⟩) (by kernel_rfl) (by rfl) ?_
            intro a hS
            rcases Bool.eq_false_or_eq_true (r119.1.Kind != ((gi r112 (IntKind.i64.wrap (S - 1))).Kind)) with hb | hb
            · replace hS := hS.lit (t := 47) (by kernel_rfl) hb
              replace hm := hm.1 hb
              refine take T [23, 25, 26, 24, 27, 28, 29, 30, 31, 32, 33, 34, 36, 37, 35, 38, 39, 40, 41, 42, 43, 44, 45, 46, 47, 48, 49, 50, 51, 52, 53, 54] [4, 5, 9] [3, 4, 7, 79] hS (by kernel_rfl) (by kernel_rfl) (by kernel_rfl) hH (listed' := #[true, true, true, true, true, true, true, true, true, true, true, true, true, true, true, true, true, true, true, true, true, true, true, true, true, true, true, true, true, true, true, true, true, true, true, true, true, true, true, true, true, true, true, true, true, true, true, true, true, true, true, true, true, true, true]) (fuel := 0) (sy' := ⟨[(3, Pt 4 0), (4, Pt 5 0), (7, V (.slice a113 r112.length c114)), (79, B true)], [(4, (23, [I P.Ops, I P.States])), (5, (25, [I O.Kind, I O.A, I O.B])), (9, (25, [I r119.1.Kind, I r119.1.A, I r119.1.B]))]⟩) (by kernel_rfl) (by rfl) ?_
              intro a hS
              refine drawnDone (by kernel_rfl) ?_
              clear hD hH
              replace hS := hS.sel [3, 4, 7, 79] [4, 5] (sy' := ⟨[(3, Pt 4 0), (4, Pt 5 0), (7, V (.slice a113 r112.length c114)), (79, B true)], [(4, (23, [I P.Ops, I P.States])), (5, (25, [I O.Kind, I O.A, I O.B]))]⟩) (by kernel_rfl)
              exact ⟨ρ, _, r112, true, a113, c114, hm, hS.sel [3, 4, 7, 79] [4, 5] (by kernel_rfl), hO, h115⟩
            · replace hS := hS.lit (t := 47) (by kernel_rfl) hb
              replace hm := hm.2 hb
              refine take T [23, 25, 26, 24, 27] [4, 5, 9] [2, 3, 4, 7, 8, 9, 35, 37, 47, 49, 50, 52] hS (by kernel_rfl) (by kernel_rfl) (by kernel_rfl) hH (listed' := #[true, true, true, true, true, true, true, true, true, true, true, true, true, true, true, true, true, true, true, true, true, true, true, true, true, true, true, true, false, false, false, false, false, false, false, false, false, false, false, false, false, false, false, false, false, false, false, false, false, false, false, false, false, false, false]) (fuel := 27) (sy' := ⟨[(2, I S), (3, Pt 4 0), (4, Pt 5 0), (7, V (.slice a113 r112.length c114)), (8, Pt 9 0), (9, B r119.2), (35, B false), (37, B true), (47, B false), (49, I r119.1.A), (50, V (.slice a113 r112.length c114)), (52, I (IntKind.i64.wrap (S - 1)))], [(4, (23, [I P.Ops, I P.States])), (5, (25, [I O.Kind, I O.A, I O.B])), (9, (25, [I r119.1.Kind, I r119.1.A, I r119.1.B]))]⟩) (by kernel_rfl) (by rfl) ?_
              intro a hS
              obtain ⟨hq, hm⟩ := hm
              refine dindex (e := 32) (k := .i64) T 28 hS (by kernel_rfl) (by kernel_rfl) (by kernel_rfl) (by rfl) (by kernel_rfl) hH (by kernel_rfl) (by kernel_rfl) h115 (by kernel_rfl) (by kernel_rfl) hq.1 hq.2 ?_
              intro A171 a h172 hS
              clear hq
              have h172b := h172.here
              refine dfieldA (off := 1) (fsz := 1) (ft := 3) (TF := tI) (y := (gi r112 (IntKind.i64.wrap (S - 1))).A) 29 T hS (by kernel_rfl) (by kernel_rfl) (by kernel_rfl) (by rfl) (by kernel_rfl) hH (by kernel_rfl) h172 (by kernel_rfl) (by kernel_rfl) (by kernel_rfl) (fun cs h => Ref31_Name_f1 h) ?_
              intro A173 a h174 hbl hS
              have h174b := h172b
              rw [← hbl] at h174b
              clear hbl
              refine dload1 T 30 hS (by kernel_rfl) (by kernel_rfl) (by kernel_rfl) (by rfl) (by kernel_rfl) hH (by kernel_rfl) h174 h174b rfl (by kernel_rfl) ?_
              intro v175 a hv hS
              cases hv
              refine take T [31, 32, 33] [4, 5, 9] [2, 3, 4, 7, 8, 9, 35, 37, 58] hS (by kernel_rfl) (by kernel_rfl) (by kernel_rfl) hH (listed' := #[true, true, true, true, true, true, true, true, true, true, true, true, true, true, true, true, true, true, true, true, true, true, true, true, true, true, true, true, true, true, true, true, true, true, false, false, false, false, false, false, false, false, false, false, false, false, false, false, false, false, false, false, false, false, false]) (fuel := 21) (sy' := ⟨[(2, I S), (3, Pt 4 0), (4, Pt 5 0), (7, V (.slice a113 r112.length c114)), (8, Pt 9 0), (9, B r119.2), (35, B false), (37, B true), (58, B (r119.1.A != ((gi r112 (IntKind.i64.wrap (S - 1))).A)))], [(4, (23, [I P.Ops, I P.States])), (5, (25, [I O.Kind, I O.A, I O.B])), (9, (25, [I r119.1.Kind, I r119.1.A, I r119.1.B]))]⟩) (by kernel_rfl) (by rfl) ?_
              intro a hS
              rcases Bool.eq_false_or_eq_true (r119.1.A != ((gi r112 (IntKind.i64.wrap (S - 1))).A)) with hb | hb
              · replace hS := hS.lit (t := 58) (by kernel_rfl) hb
                replace hm := hm.1 hb
                refine take T [34, 36, 37, 35, 38, 39, 40, 41, 42, 43, 44, 45, 46, 47, 48, 49, 50, 51, 52, 53, 54] [4, 5, 9] [3, 4, 7, 79] hS (by kernel_rfl) (by kernel_rfl) (by kernel_rfl) hH (listed' := #[true, true, true, true, true, true, true, true, true, true, true, true, true, true, true, true, true, true, true, true, true, true, true, true, true, true, true, true, true, true, true, true, true, true, true, true, true, true, true, true, true, true, true, true, true, true, true, true, true, true, true, true, true, true, true]) (fuel := 0) (sy' := ⟨[(3, Pt 4 0), (4, Pt 5 0), (7, V (.slice a113 r112.length c114)), (79, B true)], [(4, (23, [I P.Ops, I P.States])), (5, (25, [I O.Kind, I O.A, I O.B])), (9, (25, [I r119.1.Kind, I r119.1.A, I r119.1.B]))]⟩) (by kernel_rfl) (by rfl) ?_
                intro a hS
                refine drawnDone (by kernel_rfl) ?_
                clear hD hH
                replace hS := hS.sel [3, 4, 7, 79] [4, 5] (sy' := ⟨[(3, Pt 4 0), (4, Pt 5 0), (7, V (.slice a113 r112.length c114)), (79, B true)], [(4, (23, [I P.Ops, I P.States])), (5, (25, [I O.Kind, I O.A, I O.B]))]⟩) (by kernel_rfl)
                exact ⟨ρ, _, r112, true, a113, c114, hm, hS.sel [3, 4, 7, 79] [4, 5] (by kernel_rfl), hO, h115⟩
              · replace hS := hS.lit (t := 58) (by kernel_rfl) hb
                replace hm := hm.2 hb
                refine take T [34, 36, 37, 35, 38] [4, 5, 9] [3, 4, 7, 8, 9, 35, 37, 58, 60, 61, 63] hS (by kernel_rfl) (by kernel_rfl) (by kernel_rfl) hH (listed' := #[true, true, true, true, true, true, true, true, true, true, true, true, true, true, true, true, true, true, true, true, true, true, true, true, true, true, true, true, true, true, true, true, true, true, true, true, true, true, true, false, false, false, false, false, false, false, false, false, false, false, false, false, false, false, false]) (fuel := 16) (sy' := ⟨[(3, Pt 4 0), (4, Pt 5 0), (7, V (.slice a113 r112.length c114)), (8, Pt 9 0), (9, B r119.2), (35, B false), (37, B true), (58, B false), (60, I r119.1.B), (61, V (.slice a113 r112.length c114)), (63, I (IntKind.i64.wrap (S - 1)))], [(4, (23, [I P.Ops, I P.States])), (5, (25, [I O.Kind, I O.A, I O.B])), (9, (25, [I r119.1.Kind, I r119.1.A, I r119.1.B]))]⟩) (by kernel_rfl) (by rfl) ?_
                intro a hS
                obtain ⟨hq, hm⟩ := hm
                refine dindex (e := 32) (k := .i64) T 39 hS (by kernel_rfl) (by kernel_rfl) (by kernel_rfl) (by rfl) (by kernel_rfl) hH (by kernel_rfl) (by kernel_rfl) h115 (by kernel_rfl) (by kernel_rfl) hq.1 hq.2 ?_
                intro A176 a h177 hS
                clear hq
                have h177b := h177.here
                refine dfieldA (off := 2) (fsz := 1) (ft := 3) (TF := tI) (y := (gi r112 (IntKind.i64.wrap (S - 1))).B) 40 T hS (by kernel_rfl) (by kernel_rfl) (by kernel_rfl) (by rfl) (by kernel_rfl) hH (by kernel_rfl) h177 (by kernel_rfl) (by kernel_rfl) (by kernel_rfl) (fun cs h => Ref31_Name_f2 h) ?_
                intro A178 a h179 hbl hS
                have h179b := h177b
                rw [← hbl] at h179b
                clear hbl
                refine dload1 T 41 hS (by kernel_rfl) (by kernel_rfl) (by kernel_rfl) (by rfl) (by kernel_rfl) hH (by kernel_rfl) h179 h179b rfl (by kernel_rfl) ?_
                intro v180 a hv hS
                cases hv
                refine take T [42, 43, 44, 45, 46] [4, 5, 9] [3, 4, 7, 8, 9, 71] hS (by kernel_rfl) (by kernel_rfl) (by kernel_rfl) hH (listed' := #[true, true, true, true, true, true, true, true, true, true, true, true, true, true, true, true, true, true, true, true, true, true, true, true, true, true, true, true, true, true, true, true, true, true, true, true, true, true, true, true, true, true, true, true, true, true, true, false, false, false, false, false, false, false, false]) (fuel := 8) (sy' := ⟨[(3, Pt 4 0), (4, Pt 5 0), (7, V (.slice a113 r112.length c114)), (8, Pt 9 0), (9, B r119.2), (71, B (r119.1.B != ((gi r112 (IntKind.i64.wrap (S - 1))).B)))], [(4, (23, [I P.Ops, I P.States])), (5, (25, [I O.Kind, I O.A, I O.B])), (9, (25, [I r119.1.Kind, I r119.1.A, I r119.1.B]))]⟩) (by kernel_rfl) (by rfl) ?_
                intro a hS
                rcases Bool.eq_false_or_eq_true (r119.1.B != ((gi r112 (IntKind.i64.wrap (S - 1))).B)) with hb | hb
                · replace hS := hS.lit (t := 71) (by kernel_rfl) hb
                  replace hm := hm.1 hb
                  refine take T [47, 48, 49, 50, 51, 52, 53, 54] [4, 5, 9] [3, 4, 7, 79] hS (by kernel_rfl) (by kernel_rfl) (by kernel_rfl) hH (listed' := #[true, true, true, true, true, true, true, true, true, true, true, true, true, true, true, true, true, true, true, true, true, true, true, true, true, true, true, true, true, true, true, true, true, true, true, true, true, true, true, true, true, true, true, true, true, true, true, true, true, true, true, true, true, true, true]) (fuel := 0) (sy' := ⟨[(3, Pt 4 0), (4, Pt 5 0), (7, V (.slice a113 r112.length c114)), (79, B true)], [(4, (23, [I P.Ops, I P.States])), (5, (25, [I O.Kind, I O.A, I O.B])), (9, (25, [I r119.1.Kind, I r119.1.A, I r119.1.B]))]⟩) (by kernel_rfl) (by rfl) ?_
                  intro a hS
                  refine drawnDone (by kernel_rfl) ?_
                  clear hD hH
                  replace hS := hS.sel [3, 4, 7, 79] [4, 5] (sy' := ⟨[(3, Pt 4 0), (4, Pt 5 0), (7, V (.slice a113 r112.length c114)), (79, B true)], [(4, (23, [I P.Ops, I P.States])), (5, (25, [I O.Kind, I O.A, I O.B]))]⟩) (by kernel_rfl)
                  exact ⟨ρ, _, r112, true, a113, c114, hm, hS.sel [3, 4, 7, 79] [4, 5] (by kernel_rfl), hO, h115⟩
                · replace hS := hS.lit (t := 71) (by kernel_rfl) hb
                  replace hm := hm.2 hb
                  refine take T [47, 48, 49] [4, 5, 9] [3, 4, 7, 8, 71, 74] hS (by kernel_rfl) (by kernel_rfl) (by kernel_rfl) hH (listed' := #[true, true, true, true, true, true, true, true, true, true, true, true, true, true, true, true, true, true, true, true, true, true, true, true, true, true, true, true, true, true, true, true, true, true, true, true, true, true, true, true, true, true, true, true, true, true, true, true, true, true, false, false, false, false, false]) (fuel := 5) (sy' := ⟨[(3, Pt 4 0), (4, Pt 5 0), (7, V (.slice a113 r112.length c114)), (8, Pt 9 0), (71, B false), (74, B (!r119.2))], [(4, (23, [I P.Ops, I P.States])), (5, (25, [I O.Kind, I O.A, I O.B])), (9, (25, [I r119.1.Kind, I r119.1.A, I r119.1.B]))]⟩) (by kernel_rfl) (by rfl) ?_
                  intro a hS
                  rcases Bool.eq_false_or_eq_true (!r119.2) with hb | hb
                  · replace hS := hS.lit (t := 74) (by kernel_rfl) hb
                    replace hm := hm.1 hb
                    refine take T [50, 51] [4, 5, 9] [3, 4, 7, 71, 74, 75, 76] hS (by kernel_rfl) (by kernel_rfl) (by kernel_rfl) hH (listed' := #[true, true, true, true, true, true, true, true, true, true, true, true, true, true, true, true, true, true, true, true, true, true, true, true, true, true, true, true, true, true, true, true, true, true, true, true, true, true, true, true, true, true, true, true, true, true, true, true, true, true, true, true, false, false, false]) (fuel := 3) (sy' := ⟨[(3, Pt 4 0), (4, Pt 5 0), (7, V (.slice a113 r112.length c114)), (71, B false), (74, B true), (75, V (.agg #[.int .i64 r119.1.Kind, .int .i64 r119.1.A, .int .i64 r119.1.B])), (76, V (.agg #[.int .i64 0, .int .i64 0, .int .i64 0]))], [(4, (23, [I P.Ops, I P.States])), (5, (25, [I O.Kind, I O.A, I O.B])), (9, (25, [I r119.1.Kind, I r119.1.A, I r119.1.B]))]⟩) (by kernel_rfl) (by rfl) ?_
                    intro a hS
                    refine dstructEq (op := .neq) (xs := [.int .i64 r119.1.Kind, .int .i64 r119.1.A, .int .i64 r119.1.B]) (ys := [.int .i64 0, .int .i64 0, .int .i64 0]) (r := (r119.1.Kind == 0 && (r119.1.A == 0 && (r119.1.B == 0 && true)))) (b := (!(r119.1.Kind == 0 && (r119.1.A == 0 && (r119.1.B == 0 && true))))) 52 T hS (by kernel_rfl) (by kernel_rfl) (by kernel_rfl) (by rfl) (by kernel_rfl) hH (by kernel_rfl) (by kernel_rfl) (by kernel_rfl) (by kernel_rfl) (by kernel_rfl) (by kernel_rfl) ?_
                    intro a hS
                    refine take T [53, 54] [4, 5, 9] [3, 4, 7, 79] hS (by kernel_rfl) (by kernel_rfl) (by kernel_rfl) hH (listed' := #[true, true, true, true, true, true, true, true, true, true, true, true, true, true, true, true, true, true, true, true, true, true, true, true, true, true, true, true, true, true, true, true, true, true, true, true, true, true, true, true, true, true, true, true, true, true, true, true, true, true, true, true, true, true, true]) (fuel := 0) (sy' := ⟨[(3, Pt 4 0), (4, Pt 5 0), (7, V (.slice a113 r112.length c114)), (79, B (!(r119.1.Kind == 0 && (r119.1.A == 0 && (r119.1.B == 0 && true)))))], [(4, (23, [I P.Ops, I P.States])), (5, (25, [I O.Kind, I O.A, I O.B])), (9, (25, [I r119.1.Kind, I r119.1.A, I r119.1.B]))]⟩) (by kernel_rfl) (by rfl) ?_
                    intro a hS
                    refine drawnDone (by kernel_rfl) ?_
                    clear hD hH
                    replace hS := hS.sel [3, 4, 7, 79] [4, 5] (sy' := ⟨[(3, Pt 4 0), (4, Pt 5 0), (7, V (.slice a113 r112.length c114)), (79, B (!(r119.1.Kind == 0 && (r119.1.A == 0 && (r119.1.B == 0 && true)))))], [(4, (23, [I P.Ops, I P.States])), (5, (25, [I O.Kind, I O.A, I O.B]))]⟩) (by kernel_rfl)
                    exact ⟨ρ, _, r112, (!(r119.1.Kind == 0 && (r119.1.A == 0 && (r119.1.B == 0 && true)))), a113, c114, hm, hS.sel [3, 4, 7, 79] [4, 5] (by kernel_rfl), hO, h115⟩
                  · replace hS := hS.lit (t := 74) (by kernel_rfl) hb
                    replace hm := hm.2 hb
                    refine take T [50, 51, 52, 53, 54] [4, 5, 9] [3, 4, 7, 79] hS (by kernel_rfl) (by kernel_rfl) (by kernel_rfl) hH (listed' := #[true, true, true, true, true, true, true, true, true, true, true, true, true, true, true, true, true, true, true, true, true, true, true, true, true, true, true, true, true, true, true, true, true, true, true, true, true, true, true, true, true, true, true, true, true, true, true, true, true, true, true, true, true, true, true]) (fuel := 0) (sy' := ⟨[(3, Pt 4 0), (4, Pt 5 0), (7, V (.slice a113 r112.length c114)), (79, B false)], [(4, (23, [I P.Ops, I P.States])), (5, (25, [I O.Kind, I O.A, I O.B])), (9, (25, [I r119.1.Kind, I r119.1.A, I r119.1.B]))]⟩) (by kernel_rfl) (by rfl) ?_
                    intro a hS
                    refine drawnDone (by kernel_rfl) ?_
                    clear hD hH
                    replace hS := hS.sel [3, 4, 7, 79] [4, 5] (sy' := ⟨[(3, Pt 4 0), (4, Pt 5 0), (7, V (.slice a113 r112.length c114)), (79, B false)], [(4, (23, [I P.Ops, I P.States])), (5, (25, [I O.Kind, I O.A, I O.B]))]⟩) (by kernel_rfl)
                    exact ⟨ρ, _, r112, false, a113, c114, hm, hS.sel [3, 4, 7, 79] [4, 5] (by kernel_rfl), hO, h115⟩
          · replace hS := hS.lit (t := 37) (by kernel_rfl) hb
            replace hm := hm.2 hb
            refine take T [13, 15, 16, 14, 17, 18, 19, 20, 21, 22, 23, 25, 26, 24, 27, 28, 29, 30, 31, 32, 33, 34, 36, 37, 35, 38, 39, 40, 41, 42, 43, 44, 45, 46, 47, 48, 49] [4, 5, 9] [3, 4, 7, 8, 71, 74] hS (by kernel_rfl) (by kernel_rfl) (by kernel_rfl) hH (listed' := #[true, true, true, true, true, true, true, true, true, true, true, true, true, true, true, true, true, true, true, true, true, true, true, true, true, true, true, true, true, true, true, true, true, true, true, true, true, true, true, true, true, true, true, true, true, true, true, true, true, true, false, false, false, false, false]) (fuel := 5) (sy' := ⟨[(3, Pt 4 0), (4, Pt 5 0), (7, V (.slice a113 r112.length c114)), (8, Pt 9 0), (71, B false), (74, B (!r119.2))], [(4, (23, [I P.Ops, I P.States])), (5, (25, [I O.Kind, I O.A, I O.B])), (9, (25, [I r119.1.Kind, I r119.1.A, I r119.1.B]))]⟩) (by kernel_rfl) (by rfl) ?_
            intro a hS
            rcases Bool.eq_false_or_eq_true (!r119.2) with hb | hb
            · replace hS := hS.lit (t := 74) (by kernel_rfl) hb
              replace hm := hm.1 hb
              refine take T [50, 51] [4, 5, 9] [3, 4, 7, 71, 74, 75, 76] hS (by kernel_rfl) (by kernel_rfl) (by kernel_rfl) hH (listed' := #[true, true, true, true, true, true, true, true, true, true, true, true, true, true, true, true, true, true, true, true, true, true, true, true, true, true, true, true, true, true, true, true, true, true, true, true, true, true, true, true, true, true, true, true, true, true, true, true, true, true, true, true, false, false, false]) (fuel := 3) (sy' := ⟨[(3, Pt 4 0), (4, Pt 5 0), (7, V (.slice a113 r112.length c114)), (71, B false), (74, B true), (75, V (.agg #[.int .i64 r119.1.Kind, .int .i64 r119.1.A, .int .i64 r119.1.B])), (76, V (.agg #[.int .i64 0, .int .i64 0, .int .i64 0]))], [(4, (23, [I P.Ops, I P.States])), (5, (25, [I O.Kind, I O.A, I O.B])), (9, (25, [I r119.1.Kind, I r119.1.A, I r119.1.B]))]⟩) (by kernel_rfl) (by rfl) ?_
              intro a hS
              refine dstructEq (op := .neq) (xs := [.int .i64 r119.1.Kind, .int .i64 r119.1.A, .int .i64 r119.1.B]) (ys := [.int .i64 0, .int .i64 0, .int .i64 0]) (r := (r119.1.Kind == 0 && (r119.1.A == 0 && (r119.1.B == 0 && true)))) (b := (!(r119.1.Kind == 0 && (r119.1.A == 0 && (r119.1.B == 0 && true))))) 52 T hS (by kernel_rfl) (by kernel_rfl) (by kernel_rfl) (by rfl) (by kernel_rfl) hH (by kernel_rfl) (by kernel_rfl) (by kernel_rfl) (by kernel_rfl) (by kernel_rfl) (by kernel_rfl) ?_
              intro a hS
              refine take T [53, 54] [4, 5, 9] [3, 4, 7, 79] hS (by kernel_rfl) (by kernel_rfl) (by kernel_rfl) hH (listed' := #[true, true, true, true, true, true, true, true, true, true, true, true, true, true, true, true, true, true, true, true, true, true, true, true, true, true, true, true, true, true, true, true, true, true, true, true, true, true, true, true, true, true, true, true, true, true, true, true, true, true, true, true, true, true, true]) (fuel := 0) (sy' := ⟨[(3, Pt 4 0), (4, Pt 5 0), (7, V (.slice a113 r112.length c114)), (79, B (!(r119.1.Kind == 0 && (r119.1.A == 0 && (r119.1.B == 0 && true)))))], [(4, (23, [I P.Ops, I P.States])), (5, (25, [I O.Kind, I O.A, I O.B])), (9, (25, [I r119.1.Kind, I r119.1.A, I r119.1.B]))]⟩) (by kernel_rfl) (by rfl) ?_
              intro a hS
              refine drawnDone (by kernel_rfl) ?_
              clear hD hH
              replace hS := hS.sel [3, 4, 7, 79] [4, 5] (sy' := ⟨[(3, Pt 4 0), (4, Pt 5 0), (7, V (.slice a113 r112.length c114)), (79, B (!(r119.1.Kind == 0 && (r119.1.A == 0 && (r119.1.B == 0 && true)))))], [(4, (23, [I P.Ops, I P.States])), (5, (25, [I O.Kind, I O.A, I O.B]))]⟩) (by kernel_rfl)
              exact ⟨ρ, _, r112, (!(r119.1.Kind == 0 && (r119.1.A == 0 && (r119.1.B == 0 && true)))), a113, c114, hm, hS.sel [3, 4, 7, 79] [4, 5] (by kernel_rfl), hO, h115⟩
            · replace hS := hS.lit (t := 74) (by kernel_rfl) hb
              replace hm := hm.2 hb
              refine take T [50, 51, 52, 53, 54] [4, 5, 9] [3, 4, 7, 79] hS (by kernel_rfl) (by kernel_rfl) (by kernel_rfl) hH (listed' := #[true, true, true, true, true, true, true, true, true, true, true, true, true, true, true, true, true, true, true, true, true, true, true, true, true, true, true, true, true, true, true, true, true, true, true, true, true, true, true, true, true, true, true, true, true, true, true, true, true, true, true, true, true, true, true]) (fuel := 0) (sy' := ⟨[(3, Pt 4 0), (4, Pt 5 0), (7, V (.slice a113 r112.length c114)), (79, B false)], [(4, (23, [I P.Ops, I P.States])), (5, (25, [I O.Kind, I O.A, I O.B])), (9, (25, [I r119.1.Kind, I r119.1.A, I r119.1.B]))]⟩) (by kernel_rfl) (by rfl) ?_
              intro a hS
              refine drawnDone (by kernel_rfl) ?_
              clear hD hH
              replace hS := hS.sel [3, 4, 7, 79] [4, 5] (sy' := ⟨[(3, Pt 4 0), (4, Pt 5 0), (7, V (.slice a113 r112.length c114)), (79, B false)], [(4, (23, [I P.Ops, I P.States])), (5, (25, [I O.Kind, I O.A, I O.B]))]⟩) (by kernel_rfl)
              exact ⟨ρ, _, r112, false, a113, c114, hm, hS.sel [3, 4, 7, 79] [4, 5] (by kernel_rfl), hO, h115⟩
    · rintro a w182 ⟨ρ, χ181, A_120, x_124, a121, c122, hm, hS, hO, h123⟩
      unfold VC3_J1 at hm
      refine wcond hS (b := x_124) (by kernel_rfl) (fun hb => ?_) (fun hb => ?_)
      · replace hm := hm.1 hb
        refine regP T hS (sp := []) (ks := [6]) (bs := []) (sy' := ⟨[(6, B false)], []⟩) (by kernel_rfl) ?_
        intro a hS
        refine wret ?_
        exact fin T hS hO (fun c => c) rfl (r := [.bool false]) (by kernel_rfl) (fun χ' hM hC => ⟨false, hm, rfl⟩)
      · replace hm := hm.2 hb
        refine wskip ?_
        refine drawnS [4, 5] mixed hS ?_
        intro w125 hS hE hD hH
        replace hO := hO.mv hE rfl rfl
        replace h123 := h123.mv hE rfl
        clear hE
        refine take T [0, 2, 4, 3, 5] [4, 5] [3, 4, 7, 80, 83, 85] hS (by kernel_rfl) (by kernel_rfl) (by kernel_rfl) hH (listed' := #[true, false, true, true, true, true, false, false, false, false, false, false, false, false, false, false, false, false, false, false, false, false, false, false, false, false, false, false, false, false, false, false, false, false, false, false, false]) (fuel := 32) (sy' := ⟨[(3, Pt 4 0), (4, Pt 5 0), (7, V (.slice a121 A_120.length c122)), (80, V (.agg #[.int .i64 P.Ops, .int .i64 P.States])), (83, I P.Ops), (85, I P.States)], [(4, (23, [I P.Ops, I P.States])), (5, (25, [I O.Kind, I O.A, I O.B]))]⟩) (by kernel_rfl) (by rfl) ?_
        intro a hS
        refine only 1 (by kernel_rfl) (by rfl) (call hS (by kernel_rfl) (by kernel_rfl) hb21 (by kernel_rfl) (fun _ _ => rfl) (k21 _ _ P) ?_)
        intro v126 a w127 χ128 hE hp hS
        replace hO := hO.mv hE rfl rfl
        replace hD := hD.ev hE rfl
        replace h123 := h123.mv hE rfl
        clear hE
        obtain ⟨r129, hr⟩ : ∃ r, numbering_Check P = r := ⟨_, rfl⟩
        replace hm := hm r129 hr
        rw [hr] at hp
        clear hr
        subst hp
        refine andH (Hold.of hS (bks := [4, 5]) (by kernel_rfl) hD) ?_
        intro hH
        refine only 6 (by kernel_rfl) (by rfl) (call hS (by kernel_rfl) (by kernel_rfl) hb22 (by kernel_rfl) (fun _ _ => rfl) (k22 _ _ P.Ops P.States) ?_)
        intro v130 a w131 χ132 hE hp hS
        replace hO := hO.mv hE rfl rfl
        replace hD := hD.ev hE rfl
        replace h123 := h123.mv hE rfl
        clear hE
        obtain ⟨r133, hr⟩ : ∃ r, ref31_Check P.Ops P.States = r := ⟨_, rfl⟩
        replace hm := hm r133 hr
        rw [hr] at hp
        clear hr
        subst hp
        refine andH (Hold.of hS (bks := [4, 5]) (by kernel_rfl) hD) ?_
        intro hH
        refine take T [7, 8] [4, 5] [3, 4, 7, 88] hS (by kernel_rfl) (by kernel_rfl) (by kernel_rfl) hH (listed' := #[true, true, true, true, true, true, true, true, true, false, false, false, false, false, false, false, false, false, false, false, false, false, false, false, false, false, false, false, false, false, false, false, false, false, false, false, false]) (fuel := 28) (sy' := ⟨[(3, Pt 4 0), (4, Pt 5 0), (7, V (.slice a121 A_120.length c122)), (88, B (r129 == r133))], [(4, (23, [I P.Ops, I P.States])), (5, (25, [I O.Kind, I O.A, I O.B]))]⟩) (by kernel_rfl) (by rfl) ?_
        intro a hS
        rcases Bool.eq_false_or_eq_true (r129 == r133) with hb | hb
        · replace hS := hS.lit (t := 88) (by kernel_rfl) hb
          replace hm := hm.1 hb
          refine take T [9, 11, 12] [4, 5] [3, 4, 88, 89, 92] hS (by kernel_rfl) (by kernel_rfl) (by kernel_rfl) hH (listed' := #[true, true, true, true, true, true, true, true, true, true, false, true, true, false, false, false, false, false, false, false, false, false, false, false, false, false, false, false, false, false, false, false, false, false, false, false, false]) (fuel := 25) (sy' := ⟨[(3, Pt 4 0), (4, Pt 5 0), (88, B true), (89, V (.agg #[.int .i64 P.Ops, .int .i64 P.States])), (92, I ((A_120.length : Nat) : Int))], [(4, (23, [I P.Ops, I P.States])), (5, (25, [I O.Kind, I O.A, I O.B]))]⟩) (by kernel_rfl) (by rfl) ?_
          intro a hS
          refine only 10 (by kernel_rfl) (by rfl) (call hS (by kernel_rfl) (by kernel_rfl) hb23 (by kernel_rfl) (fun _ _ => rfl) (k23 _ _ P) ?_)
          intro v134 a w135 χ136 hE hp hS
          replace hO := hO.mv hE rfl rfl
          replace hD := hD.ev hE rfl
          replace h123 := h123.mv hE rfl
          clear hE
          obtain ⟨r137, hr⟩ : ∃ r, numbering_Vars P = r := ⟨_, rfl⟩
          replace hm := hm r137 hr
          rw [hr] at hp
          clear hr
          subst hp
          refine andH (Hold.of hS (bks := [4, 5]) (by kernel_rfl) hD) ?_
          intro hH
          refine take T [13, 14, 15] [4, 5] [3, 4, 95] hS (by kernel_rfl) (by kernel_rfl) (by kernel_rfl) hH (listed' := #[true, true, true, true, true, true, true, true, true, true, true, true, true, true, true, true, false, false, false, false, false, false, false, false, false, false, false, false, false, false, false, false, false, false, false, false, false]) (fuel := 21) (sy' := ⟨[(3, Pt 4 0), (4, Pt 5 0), (95, B (r137 == ((A_120.length : Nat) : Int)))], [(4, (23, [I P.Ops, I P.States])), (5, (25, [I O.Kind, I O.A, I O.B]))]⟩) (by kernel_rfl) (by rfl) ?_
          intro a hS
          rcases Bool.eq_false_or_eq_true (r137 == ((A_120.length : Nat) : Int)) with hb | hb
          · replace hS := hS.lit (t := 95) (by kernel_rfl) hb
            replace hm := hm.1 hb
            refine take T [16, 17, 19, 21, 23, 25, 27, 20, 22, 24, 26, 28, 29] [4, 5] [95, 96, 97, 100, 102, 109] hS (by kernel_rfl) (by kernel_rfl) (by kernel_rfl) hH (listed' := #[true, true, true, true, true, true, true, true, true, true, true, true, true, true, true, true, true, true, false, true, true, true, true, true, true, true, true, true, true, true, false, false, false, false, false, false, false]) (fuel := 8) (sy' := ⟨[(95, B true), (96, V (.agg #[.int .i64 P.Ops, .int .i64 P.States])), (97, V (.agg #[.int .i64 O.Kind, .int .i64 O.A, .int .i64 O.B])), (100, I P.Ops), (102, I P.States), (109, V (.agg #[.int .i64 O.Kind, .int .i64 O.A, .int .i64 O.B]))], [(4, (23, [I P.Ops, I P.States])), (5, (25, [I O.Kind, I O.A, I O.B]))]⟩) (by kernel_rfl) (by rfl) ?_
            intro a hS
            refine only 18 (by kernel_rfl) (by rfl) (call hS (by kernel_rfl) (by kernel_rfl) hb24 (by kernel_rfl) (fun _ _ => rfl) (k24 _ _ P O) ?_)
            intro v138 a w139 χ140 hE hp hS
            replace hO := hO.mv hE rfl rfl
            replace hD := hD.ev hE rfl
            replace h123 := h123.mv hE rfl
            clear hE
            obtain ⟨r141, hr⟩ : ∃ r, numbering_Var P O = r := ⟨_, rfl⟩
            replace hm := hm r141 hr
            rw [hr] at hp
            clear hr
            subst hp
            refine andH (Hold.of hS (bks := [4, 5]) (by kernel_rfl) hD) ?_
            intro hH
            refine only 30 (by kernel_rfl) (by rfl) (call hS (by kernel_rfl) (by kernel_rfl) hb25 (by kernel_rfl) (fun _ _ => rfl) (k25 _ _ P.Ops P.States (⟨O.Kind, O.A, O.B⟩ : Ref31_Name)) ?_)
            intro v142 a w143 χ144 hE hp hS
            replace hO := hO.mv hE rfl rfl
            replace hD := hD.ev hE rfl
            replace h123 := h123.mv hE rfl
            clear hE
            obtain ⟨r145, hr⟩ : ∃ r, ref31_Var P.Ops P.States (⟨O.Kind, O.A, O.B⟩ : Ref31_Name) = r := ⟨_, rfl⟩
            replace hm := hm r145 hr
            rw [hr] at hp
            clear hr
            subst hp
            refine andH (Hold.of hS (bks := [4, 5]) (by kernel_rfl) hD) ?_
            intro hH
            refine take T [31, 32, 33] [4, 5] [113] hS (by kernel_rfl) (by kernel_rfl) (by kernel_rfl) hH (listed' := #[true, true, true, true, true, true, true, true, true, true, true, true, true, true, true, true, true, true, true, true, true, true, true, true, true, true, true, true, true, true, true, true, true, true, false, false, false]) (fuel := 3) (sy' := ⟨[(113, B (r141 == r145))], [(4, (23, [I P.Ops, I P.States])), (5, (25, [I O.Kind, I O.A, I O.B]))]⟩) (by kernel_rfl) (by rfl) ?_
            intro a hS
            rcases Bool.eq_false_or_eq_true (r141 == r145) with hb | hb
            · replace hS := hS.lit (t := 113) (by kernel_rfl) hb
              replace hm := hm.1 hb
              refine only 34 (by kernel_rfl) (by rfl) (call hS (by kernel_rfl) (by kernel_rfl) hb18 (by kernel_rfl) (fun _ _ => rfl) (k18 _ _) ?_)
              intro v146 a w147 χ148 hE hp hS
              replace hO := hO.mv hE rfl rfl
              replace hD := hD.ev hE rfl
              replace h123 := h123.mv hE rfl
              clear hE
              obtain ⟨r149, hr⟩ : ∃ r, law31_awake = r := ⟨_, rfl⟩
              replace hm := hm r149 hr
              rw [hr] at hp
              clear hr
              subst hp
              refine andH (Hold.of hS (bks := [4, 5]) (by kernel_rfl) hD) ?_
              intro hH
              refine take T [35, 36] [4, 5] [6] hS (by kernel_rfl) (by kernel_rfl) (by kernel_rfl) hH (listed' := #[true, true, true, true, true, true, true, true, true, true, true, true, true, true, true, true, true, true, true, true, true, true, true, true, true, true, true, true, true, true, true, true, true, true, true, true, true]) (fuel := 0) (sy' := ⟨[(6, B r149)], [(4, (23, [I P.Ops, I P.States])), (5, (25, [I O.Kind, I O.A, I O.B]))]⟩) (by kernel_rfl) (by rfl) ?_
              intro a hS
              refine drawnDone (by kernel_rfl) ?_
              clear hD hH
              replace hS := hS.sel [6] [] (sy' := ⟨[(6, B r149)], []⟩) (by kernel_rfl)
              refine wret ?_
              exact fin T hS hO (fun c => c) rfl (r := [.bool r149]) (by kernel_rfl) (fun χ' hM hC => ⟨r149, hm, rfl⟩)
            · replace hS := hS.lit (t := 113) (by kernel_rfl) hb
              replace hm := hm.2 hb
              refine take T [34, 35, 36] [4, 5] [6] hS (by kernel_rfl) (by kernel_rfl) (by kernel_rfl) hH (listed' := #[true, true, true, true, true, true, true, true, true, true, true, true, true, true, true, true, true, true, true, true, true, true, true, true, true, true, true, true, true, true, true, true, true, true, true, true, true]) (fuel := 0) (sy' := ⟨[(6, B false)], [(4, (23, [I P.Ops, I P.States])), (5, (25, [I O.Kind, I O.A, I O.B]))]⟩) (by kernel_rfl) (by rfl) ?_
              intro a hS
              refine drawnDone (by kernel_rfl) ?_
              clear hD hH
              replace hS := hS.sel [6] [] (sy' := ⟨[(6, B false)], []⟩) (by kernel_rfl)
              refine wret ?_
              exact fin T hS hO (fun c => c) rfl (r := [.bool false]) (by kernel_rfl) (fun χ' hM hC => ⟨false, hm, rfl⟩)
          · replace hS := hS.lit (t := 95) (by kernel_rfl) hb
            replace hm := hm.2 hb
            refine take T [16, 17, 19, 21, 23, 25, 27, 18, 20, 22, 24, 26, 28, 29, 30, 31, 32, 33, 34, 35, 36] [4, 5] [6] hS (by kernel_rfl) (by kernel_rfl) (by kernel_rfl) hH (listed' := #[true, true, true, true, true, true, true, true, true, true, true, true, true, true, true, true, true, true, true, true, true, true, true, true, true, true, true, true, true, true, true, true, true, true, true, true, true]) (fuel := 0) (sy' := ⟨[(6, B false)], [(4, (23, [I P.Ops, I P.States])), (5, (25, [I O.Kind, I O.A, I O.B]))]⟩) (by kernel_rfl) (by rfl) ?_
            intro a hS
            refine drawnDone (by kernel_rfl) ?_
            clear hD hH
            replace hS := hS.sel [6] [] (sy' := ⟨[(6, B false)], []⟩) (by kernel_rfl)
            refine wret ?_
            exact fin T hS hO (fun c => c) rfl (r := [.bool false]) (by kernel_rfl) (fun χ' hM hC => ⟨false, hm, rfl⟩)
        · replace hS := hS.lit (t := 88) (by kernel_rfl) hb
          replace hm := hm.2 hb
          refine take T [9, 11, 10, 12, 13, 14, 15, 16, 17, 19, 21, 23, 25, 27, 18, 20, 22, 24, 26, 28, 29, 30, 31, 32, 33, 34, 35, 36] [4, 5] [6] hS (by kernel_rfl) (by kernel_rfl) (by kernel_rfl) hH (listed' := #[true, true, true, true, true, true, true, true, true, true, true, true, true, true, true, true, true, true, true, true, true, true, true, true, true, true, true, true, true, true, true, true, true, true, true, true, true]) (fuel := 0) (sy' := ⟨[(6, B false)], [(4, (23, [I P.Ops, I P.States])), (5, (25, [I O.Kind, I O.A, I O.B]))]⟩) (by kernel_rfl) (by rfl) ?_
          intro a hS
          refine drawnDone (by kernel_rfl) ?_
          clear hD hH
          replace hS := hS.sel [6] [] (sy' := ⟨[(6, B false)], []⟩) (by kernel_rfl)
          refine wret ?_
          exact fin T hS hO (fun c => c) rfl (r := [.bool false]) (by kernel_rfl) (fun χ' hM hC => ⟨false, hm, rfl⟩)
theorem C3 (k17 : S17) (k18 : S18) (k19 : S19) (k20 : S20) (k21 : S21) (k22 : S22) (k23 : S23) (k24 : S24) (k25 : S25) (v : ∀ (P : Numbering_Size) (O : Numbering_Name) (S : Int), VC3 P O S (fun r => r = law31_NumberingTells P O S)) : S3 := by
  intro w χ P O S   
  refine (W3 k17 k18 k19 k20 k21 k22 k23 k24 k25 w χ P O S   _ (v P O S)).mono ?_
  rintro _ _ _ _ ⟨r, rfl, h⟩
  exact h

def S4 : Prop := ∀ (w : World) (χ : Nat → Nat) (P : Numbering_Size) (O : Numbering_Name) (S : Int), Ret Try.prog 4 #[.agg #[.int .i64 P.Ops, .int .i64 P.States], .agg #[.int .i64 O.Kind, .int .i64 O.A, .int .i64 O.B], .int .i64 S] xnone w χ (fun w χ' v => v = .bool (law31_NumberingBack P O S))
theorem hb4 : hasBody Try.prog 4 = true := by kernel_rfl
/-- replevin/replevinlaw31.NumberingBack -/
theorem W4 (k18 : S18) (k20 : S20) (k23 : S23) (k24 : S24) (w0 : World) (χ0 : Nat → Nat) (P : Numbering_Size) (O : Numbering_Name) (S : Int) (Q : Bool → Prop) (hm : VC4 P O S Q) :
    Ret Try.prog 4 #[.agg #[.int .i64 P.Ops, .int .i64 P.States], .agg #[.int .i64 O.Kind, .int .i64 O.A, .int .i64 O.B], .int .i64 S] xnone w0 χ0 (fun w χ' v => ∃ r, Q r ∧ v = .bool r) := by
  unfold VC4 at hm
  refine enter Try.func4 rfl (vals := [.agg #[.int .i64 P.Ops, .int .i64 P.States], .agg #[.int .i64 O.Kind, .int .i64 O.A, .int .i64 O.B], .int .i64 S]) (by kernel_rfl) ?_
  intro ρ a hS hO hM
  clear hM
  refine regM T hS (sp := []) (ks := [2, 3, 4]) (bs := [4, 5]) (sy' := ⟨[(2, I S), (3, Pt 4 0), (4, Pt 5 0)], [(4, (23, [I P.Ops, I P.States])), (5, (25, [I O.Kind, I O.A, I O.B]))]⟩) (by kernel_rfl) ?_
  intro ρ a w145 χ146 hS hE
  replace hO := hO.mv hE rfl rfl
  clear hE
  refine wcut (fun a w => ∃ (ρ : Nat → Nat) (χ : Nat → Nat), VC4_J1 P S Q ∧ St Try.f4.ntmps ⟨[(2, I S), (3, Pt 4 0)], [(4, (23, [I P.Ops, I P.States]))]⟩ ρ a w χ ∧ Old w0 χ0 w χ) ?_ ?_
  · refine regO ?_
    refine opsP T hS 2 (sp := []) (ks := [2, 3, 4, 12, 13]) (bs := [4, 5]) (sy' := ⟨[(2, I S), (3, Pt 4 0), (4, Pt 5 0), (12, V (.agg #[.int .i64 P.Ops, .int .i64 P.States])), (13, V (.agg #[.int .i64 O.Kind, .int .i64 O.A, .int .i64 O.B]))], [(4, (23, [I P.Ops, I P.States])), (5, (25, [I O.Kind, I O.A, I O.B]))]⟩) (by kernel_rfl) ?_
    intro a hS
    refine op1 (call hS (by kernel_rfl) (by kernel_rfl) hb24 (by kernel_rfl) (fun _ _ => rfl) (k24 _ _ P O) ?_)
    intro v126 a w127 χ128 hE hp hS
    replace hO := hO.mv hE rfl rfl
    clear hE
    obtain ⟨r129, hr⟩ : ∃ r, numbering_Var P O = r := ⟨_, rfl⟩
    replace hm := hm r129 hr
    rw [hr] at hp
    clear hr
    subst hp
    refine endP T hS (sp := []) (ks := [2, 3, 4, 7]) (bs := [4, 5]) (sy' := ⟨[(2, I S), (3, Pt 4 0), (4, Pt 5 0), (7, I r129)], [(4, (23, [I P.Ops, I P.States])), (5, (25, [I O.Kind, I O.A, I O.B]))]⟩) (by kernel_rfl) ?_
    intro a hS
    refine regP T hS (sp := []) (ks := [2, 3, 4, 7, 16]) (bs := [4, 5]) (sy' := ⟨[(2, I S), (3, Pt 4 0), (4, Pt 5 0), (7, I r129), (16, B (r129 != 0))], [(4, (23, [I P.Ops, I P.States])), (5, (25, [I O.Kind, I O.A, I O.B]))]⟩) (by kernel_rfl) ?_
    intro a hS
    refine wcond hS (b := (r129 != 0)) (by kernel_rfl) (fun hb => ?_) (fun hb => ?_)
    · replace hm := hm.1 hb
      refine regO ?_
      refine opsP T hS 2 (sp := []) (ks := [2, 3, 4, 7, 18, 19]) (bs := [4, 5]) (sy' := ⟨[(2, I S), (3, Pt 4 0), (4, Pt 5 0), (7, I r129), (18, V (.agg #[.int .i64 P.Ops, .int .i64 P.States])), (19, I r129)], [(4, (23, [I P.Ops, I P.States])), (5, (25, [I O.Kind, I O.A, I O.B]))]⟩) (by kernel_rfl) ?_
      intro a hS
      refine op1 (call hS (by kernel_rfl) (by kernel_rfl) hb20 (by kernel_rfl) (fun _ _ => rfl) (k20 _ _ P r129) ?_)
      intro v130 a w131 χ132 hE hp hS
      replace hO := hO.mv hE rfl rfl
      clear hE
      obtain ⟨r133, hr⟩ : ∃ r, numbering_Of P r129 = r := ⟨_, rfl⟩
      replace hm := hm r133 hr
      rw [hr] at hp
      clear hr
      subst hp
      refine endM T hS (sp := []) (ks := [2, 3, 4, 7, 8, 9]) (bs := [4, 5, 9]) (sy' := ⟨[(2, I S), (3, Pt 4 0), (4, Pt 5 0), (7, I r129), (8, Pt 9 0), (9, B r133.2)], [(4, (23, [I P.Ops, I P.States])), (5, (25, [I O.Kind, I O.A, I O.B])), (9, (25, [I r133.1.Kind, I r133.1.A, I r133.1.B]))]⟩) (by kernel_rfl) ?_
      intro ρ a w141 χ142 hS hE
      replace hO := hO.mv hE rfl rfl
      clear hE
      refine wcut (fun a w => ∃ (ρ : Nat → Nat) (χ : Nat → Nat) (x_134 : Bool), VC4_J3 P S Q x_134 ∧ St Try.f4.ntmps ⟨[(2, I S), (3, Pt 4 0), (39, B x_134)], [(4, (23, [I P.Ops, I P.States]))]⟩ ρ a w χ ∧ Old w0 χ0 w χ) ?_ ?_
      · refine region ?_
        refine opsP T hS 3 (sp := []) (ks := [2, 3, 4, 7, 8, 25]) (bs := [4, 5, 9]) (sy' := ⟨[(2, I S), (3, Pt 4 0), (4, Pt 5 0), (7, I r129), (8, Pt 9 0), (25, B (!r133.2))], [(4, (23, [I P.Ops, I P.States])), (5, (25, [I O.Kind, I O.A, I O.B])), (9, (25, [I r133.1.Kind, I r133.1.A, I r133.1.B]))]⟩) (by kernel_rfl) ?_
        intro a hS
        rcases Bool.eq_false_or_eq_true (!r133.2) with hb | hb
        · replace hS := hS.lit (t := 25) (by kernel_rfl) hb
          replace hm := hm.1 hb
          refine endP T hS (sp := []) (ks := [2, 3, 39]) (bs := [4]) (sy' := ⟨[(2, I S), (3, Pt 4 0), (39, B true)], [(4, (23, [I P.Ops, I P.States]))]⟩) (by kernel_rfl) ?_
          intro a hS
          exact ⟨ρ, _, true, hm, hS.sel [2, 3, 39] [4] (by kernel_rfl), hO⟩
        · replace hS := hS.lit (t := 25) (by kernel_rfl) hb
          replace hm := hm.2 hb
          refine opsP T hS 2 (sp := []) (ks := [2, 3, 7, 25, 26, 27]) (bs := [4]) (sy' := ⟨[(2, I S), (3, Pt 4 0), (7, I r129), (25, B false), (26, V (.agg #[.int .i64 r133.1.Kind, .int .i64 r133.1.A, .int .i64 r133.1.B])), (27, V (.agg #[.int .i64 O.Kind, .int .i64 O.A, .int .i64 O.B]))], [(4, (23, [I P.Ops, I P.States]))]⟩) (by kernel_rfl) ?_
          intro a hS
          refine op1 (structEq (op := .neq) (xs := [.int .i64 r133.1.Kind, .int .i64 r133.1.A, .int .i64 r133.1.B]) (ys := [.int .i64 O.Kind, .int .i64 O.A, .int .i64 O.B]) (r := (r133.1.Kind == O.Kind && (r133.1.A == O.A && (r133.1.B == O.B && true)))) (b := (!(r133.1.Kind == O.Kind && (r133.1.A == O.A && (r133.1.B == O.B && true))))) T hS (by kernel_rfl) (by kernel_rfl) (by kernel_rfl) (by kernel_rfl) (by kernel_rfl) (by kernel_rfl) (by kernel_rfl) (by kernel_rfl) ?_)
          intro a hS
          refine opsP T hS 6 (sp := [30]) (ks := [2, 3, 7, 34]) (bs := [4]) (sy' := ⟨[(2, I S), (3, Pt 4 0), (7, I r129), (34, B ((!(r133.1.Kind == O.Kind && (r133.1.A == O.A && (r133.1.B == O.B && true)))) || (decide (r129 < 1))))], [(4, (23, [I P.Ops, I P.States]))]⟩) (by kernel_rfl) ?_
          intro a hS
          rcases Bool.eq_false_or_eq_true ((!(r133.1.Kind == O.Kind && (r133.1.A == O.A && (r133.1.B == O.B && true)))) || (decide (r129 < 1))) with hb | hb
          · replace hS := hS.lit (t := 34) (by kernel_rfl) hb
            replace hm := hm.1 hb
            refine endP T hS (sp := []) (ks := [2, 3, 39]) (bs := [4]) (sy' := ⟨[(2, I S), (3, Pt 4 0), (39, B true)], [(4, (23, [I P.Ops, I P.States]))]⟩) (by kernel_rfl) ?_
            intro a hS
            exact ⟨ρ, _, true, hm, hS.sel [2, 3, 39] [4] (by kernel_rfl), hO⟩
          · replace hS := hS.lit (t := 34) (by kernel_rfl) hb
            replace hm := hm.2 hb
            refine opsP T hS 2 (sp := []) (ks := [2, 3, 34, 35, 36]) (bs := [4]) (sy' := ⟨[(2, I S), (3, Pt 4 0), (34, B false), (35, I r129), (36, V (.agg #[.int .i64 P.Ops, .int .i64 P.States]))], [(4, (23, [I P.Ops, I P.States]))]⟩) (by kernel_rfl) ?_
            intro a hS
            refine op1 (call hS (by kernel_rfl) (by kernel_rfl) hb23 (by kernel_rfl) (fun _ _ => rfl) (k23 _ _ P) ?_)
            intro v135 a w136 χ137 hE hp hS
            replace hO := hO.mv hE rfl rfl
            clear hE
            obtain ⟨r138, hr⟩ : ∃ r, numbering_Vars P = r := ⟨_, rfl⟩
            replace hm := hm r138 hr
            rw [hr] at hp
            clear hr
            subst hp
            refine endP T hS (sp := []) (ks := [2, 3, 39]) (bs := [4]) (sy' := ⟨[(2, I S), (3, Pt 4 0), (39, B (decide (r129 > r138)))], [(4, (23, [I P.Ops, I P.States]))]⟩) (by kernel_rfl) ?_
            intro a hS
            exact ⟨ρ, _, decide (r129 > r138), hm, hS.sel [2, 3, 39] [4] (by kernel_rfl), hO⟩
      · rintro a w140 ⟨ρ, χ139, x_134, hm, hS, hO⟩
        unfold VC4_J3 at hm
        refine wcond hS (b := x_134) (by kernel_rfl) (fun hb => ?_) (fun hb => ?_)
        · replace hm := hm.1 hb
          refine regP T hS (sp := []) (ks := [6]) (bs := []) (sy' := ⟨[(6, B false)], []⟩) (by kernel_rfl) ?_
          intro a hS
          refine wret ?_
          exact fin T hS hO (fun c => c) rfl (r := [.bool false]) (by kernel_rfl) (fun χ' hM hC => ⟨false, hm, rfl⟩)
        · replace hm := hm.2 hb
          refine wskip ?_
          exact ⟨ρ, _, hm, hS.sel [2, 3] [4] (by kernel_rfl), hO⟩
    · replace hm := hm.2 hb
      refine wskip ?_
      exact ⟨ρ, _, hm, hS.sel [2, 3] [4] (by kernel_rfl), hO⟩
  · rintro a w144 ⟨ρ, χ143, hm, hS, hO⟩
    unfold VC4_J1 at hm
    refine regO ?_
    refine opsP T hS 2 (sp := []) (ks := [2, 3, 41, 42]) (bs := [4]) (sy' := ⟨[(2, I S), (3, Pt 4 0), (41, V (.agg #[.int .i64 P.Ops, .int .i64 P.States])), (42, I S)], [(4, (23, [I P.Ops, I P.States]))]⟩) (by kernel_rfl) ?_
    intro a hS
    refine op1 (call hS (by kernel_rfl) (by kernel_rfl) hb20 (by kernel_rfl) (fun _ _ => rfl) (k20 _ _ P S) ?_)
    intro v101 a w102 χ103 hE hp hS
    replace hO := hO.mv hE rfl rfl
    clear hE
    obtain ⟨r104, hr⟩ : ∃ r, numbering_Of P S = r := ⟨_, rfl⟩
    replace hm := hm r104 hr
    rw [hr] at hp
    clear hr
    subst hp
    refine endM T hS (sp := []) (ks := [2, 3, 10, 11]) (bs := [4, 11]) (sy' := ⟨[(2, I S), (3, Pt 4 0), (10, Pt 11 0), (11, B r104.2)], [(4, (23, [I P.Ops, I P.States])), (11, (25, [I r104.1.Kind, I r104.1.A, I r104.1.B]))]⟩) (by kernel_rfl) ?_
    intro ρ a w124 χ125 hS hE
    replace hO := hO.mv hE rfl rfl
    clear hE
    refine wseq ?_
    refine wcut (fun a w => ∃ (ρ : Nat → Nat) (χ : Nat → Nat) (x_105 : Bool), VC4_J2 Q x_105 ∧ St Try.f4.ntmps ⟨[(65, B x_105)], []⟩ ρ a w χ ∧ Old w0 χ0 w χ) ?_ ?_
    · refine region ?_
      refine opsP T hS 4 (sp := []) (ks := [2, 3, 10, 11, 46, 49]) (bs := [4, 11]) (sy' := ⟨[(2, I S), (3, Pt 4 0), (10, Pt 11 0), (11, B r104.2), (46, B r104.2), (49, B (decide (S ≥ 1)))], [(4, (23, [I P.Ops, I P.States])), (11, (25, [I r104.1.Kind, I r104.1.A, I r104.1.B]))]⟩) (by kernel_rfl) ?_
      intro a hS
      rcases Bool.eq_false_or_eq_true (decide (S ≥ 1)) with hb | hb
      · replace hS := hS.lit (t := 49) (by kernel_rfl) hb
        replace hm := hm.1 hb
        refine opsP T hS 2 (sp := []) (ks := [2, 3, 10, 11, 46, 49, 50, 51]) (bs := [4, 11]) (sy' := ⟨[(2, I S), (3, Pt 4 0), (10, Pt 11 0), (11, B r104.2), (46, B r104.2), (49, B true), (50, I S), (51, V (.agg #[.int .i64 P.Ops, .int .i64 P.States]))], [(4, (23, [I P.Ops, I P.States])), (11, (25, [I r104.1.Kind, I r104.1.A, I r104.1.B]))]⟩) (by kernel_rfl) ?_
        intro a hS
        refine op1 (call hS (by kernel_rfl) (by kernel_rfl) hb23 (by kernel_rfl) (fun _ _ => rfl) (k23 _ _ P) ?_)
        intro v110 a w111 χ112 hE hp hS
        replace hO := hO.mv hE rfl rfl
        clear hE
        obtain ⟨r113, hr⟩ : ∃ r, numbering_Vars P = r := ⟨_, rfl⟩
        replace hm := hm r113 hr
        rw [hr] at hp
        clear hr
        subst hp
        refine opsP T hS 4 (sp := []) (ks := [2, 3, 10, 11, 56]) (bs := [4, 11]) (sy' := ⟨[(2, I S), (3, Pt 4 0), (10, Pt 11 0), (11, B r104.2), (56, B (r104.2 != (decide (S ≤ r113))))], [(4, (23, [I P.Ops, I P.States])), (11, (25, [I r104.1.Kind, I r104.1.A, I r104.1.B]))]⟩) (by kernel_rfl) ?_
        intro a hS
        rcases Bool.eq_false_or_eq_true (r104.2 != (decide (S ≤ r113))) with hb | hb
        · replace hS := hS.lit (t := 56) (by kernel_rfl) hb
          replace hm := hm.1 hb
          refine endP T hS (sp := []) (ks := [65]) (bs := []) (sy' := ⟨[(65, B true)], []⟩) (by kernel_rfl) ?_
          intro a hS
          exact ⟨ρ, _, true, hm, hS.sel [65] [] (by kernel_rfl), hO⟩
        · replace hS := hS.lit (t := 56) (by kernel_rfl) hb
          replace hm := hm.2 hb
          refine opsP T hS 2 (sp := []) (ks := [2, 3, 10, 56, 58]) (bs := [4, 11]) (sy' := ⟨[(2, I S), (3, Pt 4 0), (10, Pt 11 0), (56, B false), (58, B r104.2)], [(4, (23, [I P.Ops, I P.States])), (11, (25, [I r104.1.Kind, I r104.1.A, I r104.1.B]))]⟩) (by kernel_rfl) ?_
          intro a hS
          rcases Bool.eq_false_or_eq_true r104.2 with hb | hb
          · replace hS := hS.lit (t := 58) (by kernel_rfl) hb
            replace hm := hm.1 hb
            refine opsP T hS 2 (sp := []) (ks := [2, 56, 58, 59, 60]) (bs := []) (sy' := ⟨[(2, I S), (56, B false), (58, B true), (59, V (.agg #[.int .i64 P.Ops, .int .i64 P.States])), (60, V (.agg #[.int .i64 r104.1.Kind, .int .i64 r104.1.A, .int .i64 r104.1.B]))], []⟩) (by kernel_rfl) ?_
            intro a hS
            refine op1 (call hS (by kernel_rfl) (by kernel_rfl) hb24 (by kernel_rfl) (fun _ _ => rfl) (k24 _ _ P r104.1) ?_)
            intro v114 a w115 χ116 hE hp hS
            replace hO := hO.mv hE rfl rfl
            clear hE
            obtain ⟨r117, hr⟩ : ∃ r, numbering_Var P r104.1 = r := ⟨_, rfl⟩
            replace hm := hm r117 hr
            rw [hr] at hp
            clear hr
            subst hp
            refine endP T hS (sp := []) (ks := [65]) (bs := []) (sy' := ⟨[(65, B (r117 != S))], []⟩) (by kernel_rfl) ?_
            intro a hS
            exact ⟨ρ, _, (r117 != S), hm, hS.sel [65] [] (by kernel_rfl), hO⟩
          · replace hS := hS.lit (t := 58) (by kernel_rfl) hb
            replace hm := hm.2 hb
            refine endP T hS (sp := []) (ks := [65]) (bs := []) (sy' := ⟨[(65, B false)], []⟩) (by kernel_rfl) ?_
            intro a hS
            exact ⟨ρ, _, false, hm, hS.sel [65] [] (by kernel_rfl), hO⟩
      · replace hS := hS.lit (t := 49) (by kernel_rfl) hb
        replace hm := hm.2 hb
        refine opsP T hS 7 (sp := []) (ks := [2, 3, 10, 11, 56]) (bs := [4, 11]) (sy' := ⟨[(2, I S), (3, Pt 4 0), (10, Pt 11 0), (11, B r104.2), (56, B (r104.2 != false))], [(4, (23, [I P.Ops, I P.States])), (11, (25, [I r104.1.Kind, I r104.1.A, I r104.1.B]))]⟩) (by kernel_rfl) ?_
        intro a hS
        rcases Bool.eq_false_or_eq_true (r104.2 != false) with hb | hb
        · replace hS := hS.lit (t := 56) (by kernel_rfl) hb
          replace hm := hm.1 hb
          refine endP T hS (sp := []) (ks := [65]) (bs := []) (sy' := ⟨[(65, B true)], []⟩) (by kernel_rfl) ?_
          intro a hS
          exact ⟨ρ, _, true, hm, hS.sel [65] [] (by kernel_rfl), hO⟩
        · replace hS := hS.lit (t := 56) (by kernel_rfl) hb
          replace hm := hm.2 hb
          refine opsP T hS 2 (sp := []) (ks := [2, 3, 10, 56, 58]) (bs := [4, 11]) (sy' := ⟨[(2, I S), (3, Pt 4 0), (10, Pt 11 0), (56, B false), (58, B r104.2)], [(4, (23, [I P.Ops, I P.States])), (11, (25, [I r104.1.Kind, I r104.1.A, I r104.1.B]))]⟩) (by kernel_rfl) ?_
          intro a hS
          rcases Bool.eq_false_or_eq_true r104.2 with hb | hb
          · replace hS := hS.lit (t := 58) (by kernel_rfl) hb
            replace hm := hm.1 hb
            refine opsP T hS 2 (sp := []) (ks := [2, 56, 58, 59, 60]) (bs := []) (sy' := ⟨[(2, I S), (56, B false), (58, B true), (59, V (.agg #[.int .i64 P.Ops, .int .i64 P.States])), (60, V (.agg #[.int .i64 r104.1.Kind, .int .i64 r104.1.A, .int .i64 r104.1.B]))], []⟩) (by kernel_rfl) ?_
            intro a hS
            refine op1 (call hS (by kernel_rfl) (by kernel_rfl) hb24 (by kernel_rfl) (fun _ _ => rfl) (k24 _ _ P r104.1) ?_)
            intro v118 a w119 χ120 hE hp hS
            replace hO := hO.mv hE rfl rfl
            clear hE
            obtain ⟨r121, hr⟩ : ∃ r, numbering_Var P r104.1 = r := ⟨_, rfl⟩
            replace hm := hm r121 hr
            rw [hr] at hp
            clear hr
            subst hp
            refine endP T hS (sp := []) (ks := [65]) (bs := []) (sy' := ⟨[(65, B (r121 != S))], []⟩) (by kernel_rfl) ?_
            intro a hS
            exact ⟨ρ, _, (r121 != S), hm, hS.sel [65] [] (by kernel_rfl), hO⟩
          · replace hS := hS.lit (t := 58) (by kernel_rfl) hb
            replace hm := hm.2 hb
            refine endP T hS (sp := []) (ks := [65]) (bs := []) (sy' := ⟨[(65, B false)], []⟩) (by kernel_rfl) ?_
            intro a hS
            exact ⟨ρ, _, false, hm, hS.sel [65] [] (by kernel_rfl), hO⟩
    · rintro a w123 ⟨ρ, χ122, x_105, hm, hS, hO⟩
      unfold VC4_J2 at hm
      refine wcond hS (b := x_105) (by kernel_rfl) (fun hb => ?_) (fun hb => ?_)
      · replace hm := hm.1 hb
        refine regP T hS (sp := []) (ks := [6]) (bs := []) (sy' := ⟨[(6, B false)], []⟩) (by kernel_rfl) ?_
        intro a hS
        refine wret ?_
        exact fin T hS hO (fun c => c) rfl (r := [.bool false]) (by kernel_rfl) (fun χ' hM hC => ⟨false, hm, rfl⟩)
      · replace hm := hm.2 hb
        refine wskip ?_
        refine regO ?_
        refine op1 (call hS (by kernel_rfl) (by kernel_rfl) hb18 (by kernel_rfl) (fun _ _ => rfl) (k18 _ _) ?_)
        intro v106 a w107 χ108 hE hp hS
        replace hO := hO.mv hE rfl rfl
        clear hE
        obtain ⟨r109, hr⟩ : ∃ r, law31_awake = r := ⟨_, rfl⟩
        replace hm := hm r109 hr
        rw [hr] at hp
        clear hr
        subst hp
        refine endP T hS (sp := []) (ks := [6]) (bs := []) (sy' := ⟨[(6, B r109)], []⟩) (by kernel_rfl) ?_
        intro a hS
        refine wret ?_
        exact fin T hS hO (fun c => c) rfl (r := [.bool r109]) (by kernel_rfl) (fun χ' hM hC => ⟨r109, hm, rfl⟩)
theorem C4 (k18 : S18) (k20 : S20) (k23 : S23) (k24 : S24) (v : ∀ (P : Numbering_Size) (O : Numbering_Name) (S : Int), VC4 P O S (fun r => r = law31_NumberingBack P O S)) : S4 := by
  intro w χ P O S   
  refine (W4 k18 k20 k23 k24 w χ P O S   _ (v P O S)).mono ?_
  rintro _ _ _ _ ⟨r, rfl, h⟩
  exact h

def S5 : Prop := ∀ (w : World) (χ : Nat → Nat) (P : Numbering_Size) (O : Numbering_Name) (S : Numbering_Name), Ret Try.prog 5 #[.agg #[.int .i64 P.Ops, .int .i64 P.States], .agg #[.int .i64 O.Kind, .int .i64 O.A, .int .i64 O.B], .agg #[.int .i64 S.Kind, .int .i64 S.A, .int .i64 S.B]] xnone w χ (fun w χ' v => v = .bool (law31_NumberingAll P O S))
theorem hb5 : hasBody Try.prog 5 = true := by kernel_rfl
/-- replevin/replevinlaw31.NumberingAll -/
theorem W5 (k18 : S18) (k21 : S21) (k24 : S24) (w0 : World) (χ0 : Nat → Nat) (P : Numbering_Size) (O : Numbering_Name) (S : Numbering_Name) (Q : Bool → Prop) (hm : VC5 P O S Q) :
    Ret Try.prog 5 #[.agg #[.int .i64 P.Ops, .int .i64 P.States], .agg #[.int .i64 O.Kind, .int .i64 O.A, .int .i64 O.B], .agg #[.int .i64 S.Kind, .int .i64 S.A, .int .i64 S.B]] xnone w0 χ0 (fun w χ' v => ∃ r, Q r ∧ v = .bool r) := by
  unfold VC5 at hm
  refine enter Try.func5 rfl (vals := [.agg #[.int .i64 P.Ops, .int .i64 P.States], .agg #[.int .i64 O.Kind, .int .i64 O.A, .int .i64 O.B], .agg #[.int .i64 S.Kind, .int .i64 S.A, .int .i64 S.B]]) (by kernel_rfl) ?_
  intro ρ a hS hO hM
  clear hM
  refine regM T hS (sp := []) (ks := [3, 4, 5]) (bs := [4, 5, 6]) (sy' := ⟨[(3, Pt 4 0), (4, Pt 5 0), (5, Pt 6 0)], [(4, (23, [I P.Ops, I P.States])), (5, (25, [I O.Kind, I O.A, I O.B])), (6, (25, [I S.Kind, I S.A, I S.B]))]⟩) (by kernel_rfl) ?_
  intro ρ a w125 χ126 hS hE
  replace hO := hO.mv hE rfl rfl
  clear hE
  refine drawnS [4, 5, 6] mixed hS ?_
  intro w101 hS hE hD hH
  replace hO := hO.mv hE rfl rfl
  clear hE
  refine take T [0, 1, 3, 4] [4, 5, 6] [3, 4, 5, 10, 11, 13, 14] hS (by kernel_rfl) (by kernel_rfl) (by kernel_rfl) hH (listed' := #[true, true, false, true, true, false, false, false]) (fuel := 4) (sy' := ⟨[(3, Pt 4 0), (4, Pt 5 0), (5, Pt 6 0), (10, V (.agg #[.int .i64 P.Ops, .int .i64 P.States])), (11, V (.agg #[.int .i64 O.Kind, .int .i64 O.A, .int .i64 O.B])), (13, V (.agg #[.int .i64 P.Ops, .int .i64 P.States])), (14, V (.agg #[.int .i64 S.Kind, .int .i64 S.A, .int .i64 S.B]))], [(4, (23, [I P.Ops, I P.States])), (5, (25, [I O.Kind, I O.A, I O.B])), (6, (25, [I S.Kind, I S.A, I S.B]))]⟩) (by kernel_rfl) (by rfl) ?_
  intro a hS
  refine only 2 (by kernel_rfl) (by rfl) (call hS (by kernel_rfl) (by kernel_rfl) hb24 (by kernel_rfl) (fun _ _ => rfl) (k24 _ _ P O) ?_)
  intro v102 a w103 χ104 hE hp hS
  replace hO := hO.mv hE rfl rfl
  replace hD := hD.ev hE rfl
  clear hE
  obtain ⟨r105, hr⟩ : ∃ r, numbering_Var P O = r := ⟨_, rfl⟩
  replace hm := hm r105 hr
  rw [hr] at hp
  clear hr
  subst hp
  refine andH (Hold.of hS (bks := [4, 5, 6]) (by kernel_rfl) hD) ?_
  intro hH
  refine only 5 (by kernel_rfl) (by rfl) (call hS (by kernel_rfl) (by kernel_rfl) hb24 (by kernel_rfl) (fun _ _ => rfl) (k24 _ _ P S) ?_)
  intro v106 a w107 χ108 hE hp hS
  replace hO := hO.mv hE rfl rfl
  replace hD := hD.ev hE rfl
  clear hE
  obtain ⟨r109, hr⟩ : ∃ r, numbering_Var P S = r := ⟨_, rfl⟩
  replace hm := hm r109 hr
  rw [hr] at hp
  clear hr
  subst hp
  refine andH (Hold.of hS (bks := [4, 5, 6]) (by kernel_rfl) hD) ?_
  intro hH
  refine take T [6, 7] [4, 5, 6] [3, 4, 5, 7, 8] hS (by kernel_rfl) (by kernel_rfl) (by kernel_rfl) hH (listed' := #[true, true, true, true, true, true, true, true]) (fuel := 0) (sy' := ⟨[(3, Pt 4 0), (4, Pt 5 0), (5, Pt 6 0), (7, I r105), (8, I r109)], [(4, (23, [I P.Ops, I P.States])), (5, (25, [I O.Kind, I O.A, I O.B])), (6, (25, [I S.Kind, I S.A, I S.B]))]⟩) (by kernel_rfl) (by rfl) ?_
  intro a hS
  refine drawnDone (by kernel_rfl) ?_
  clear hD hH
  replace hS := hS.sel [3, 4, 5, 7, 8] [4, 5, 6] (sy' := ⟨[(3, Pt 4 0), (4, Pt 5 0), (5, Pt 6 0), (7, I r105), (8, I r109)], [(4, (23, [I P.Ops, I P.States])), (5, (25, [I O.Kind, I O.A, I O.B])), (6, (25, [I S.Kind, I S.A, I S.B]))]⟩) (by kernel_rfl)
  refine wseq ?_
  refine wcut (fun a w => ∃ (ρ : Nat → Nat) (χ : Nat → Nat) (x_110 : Bool), VC5_J1 P O S Q r105 r109 x_110 ∧ St Try.f5.ntmps ⟨[(3, Pt 4 0), (4, Pt 5 0), (5, Pt 6 0), (7, I r105), (8, I r109), (26, B x_110)], [(4, (23, [I P.Ops, I P.States])), (5, (25, [I O.Kind, I O.A, I O.B])), (6, (25, [I S.Kind, I S.A, I S.B]))]⟩ ρ a w χ ∧ Old w0 χ0 w χ) ?_ ?_
  · refine region ?_
    refine opsP T hS 3 (sp := []) (ks := [3, 4, 5, 7, 8, 18]) (bs := [4, 5, 6]) (sy' := ⟨[(3, Pt 4 0), (4, Pt 5 0), (5, Pt 6 0), (7, I r105), (8, I r109), (18, B (r105 != 0))], [(4, (23, [I P.Ops, I P.States])), (5, (25, [I O.Kind, I O.A, I O.B])), (6, (25, [I S.Kind, I S.A, I S.B]))]⟩) (by kernel_rfl) ?_
    intro a hS
    rcases Bool.eq_false_or_eq_true (r105 != 0) with hb | hb
    · replace hS := hS.lit (t := 18) (by kernel_rfl) hb
      replace hm := hm.1 hb
      refine opsP T hS 5 (sp := []) (ks := [3, 4, 5, 7, 8, 18, 21, 22, 23]) (bs := [4, 5, 6]) (sy' := ⟨[(3, Pt 4 0), (4, Pt 5 0), (5, Pt 6 0), (7, I r105), (8, I r109), (18, B true), (21, B (r105 == r109)), (22, V (.agg #[.int .i64 O.Kind, .int .i64 O.A, .int .i64 O.B])), (23, V (.agg #[.int .i64 S.Kind, .int .i64 S.A, .int .i64 S.B]))], [(4, (23, [I P.Ops, I P.States])), (5, (25, [I O.Kind, I O.A, I O.B])), (6, (25, [I S.Kind, I S.A, I S.B]))]⟩) (by kernel_rfl) ?_
      intro a hS
      refine op1 (structEq (op := .eql) (xs := [.int .i64 O.Kind, .int .i64 O.A, .int .i64 O.B]) (ys := [.int .i64 S.Kind, .int .i64 S.A, .int .i64 S.B]) (r := (O.Kind == S.Kind && (O.A == S.A && (O.B == S.B && true)))) (b := (O.Kind == S.Kind && (O.A == S.A && (O.B == S.B && true)))) T hS (by kernel_rfl) (by kernel_rfl) (by kernel_rfl) (by kernel_rfl) (by kernel_rfl) (by kernel_rfl) (by kernel_rfl) (by kernel_rfl) ?_)
      intro a hS
      refine endP T hS (sp := []) (ks := [3, 4, 5, 7, 8, 26]) (bs := [4, 5, 6]) (sy' := ⟨[(3, Pt 4 0), (4, Pt 5 0), (5, Pt 6 0), (7, I r105), (8, I r109), (26, B ((r105 == r109) != (O.Kind == S.Kind && (O.A == S.A && (O.B == S.B && true)))))], [(4, (23, [I P.Ops, I P.States])), (5, (25, [I O.Kind, I O.A, I O.B])), (6, (25, [I S.Kind, I S.A, I S.B]))]⟩) (by kernel_rfl) ?_
      intro a hS
      exact ⟨ρ, _, ((r105 == r109) != (O.Kind == S.Kind && (O.A == S.A && (O.B == S.B && true)))), hm, hS.sel [3, 4, 5, 7, 8, 26] [4, 5, 6] (by kernel_rfl), hO⟩
    · replace hS := hS.lit (t := 18) (by kernel_rfl) hb
      replace hm := hm.2 hb
      refine endP T hS (sp := []) (ks := [3, 4, 5, 7, 8, 26]) (bs := [4, 5, 6]) (sy' := ⟨[(3, Pt 4 0), (4, Pt 5 0), (5, Pt 6 0), (7, I r105), (8, I r109), (26, B false)], [(4, (23, [I P.Ops, I P.States])), (5, (25, [I O.Kind, I O.A, I O.B])), (6, (25, [I S.Kind, I S.A, I S.B]))]⟩) (by kernel_rfl) ?_
      intro a hS
      exact ⟨ρ, _, false, hm, hS.sel [3, 4, 5, 7, 8, 26] [4, 5, 6] (by kernel_rfl), hO⟩
  · rintro a w124 ⟨ρ, χ123, x_110, hm, hS, hO⟩
    unfold VC5_J1 at hm
    refine wcond hS (b := x_110) (by kernel_rfl) (fun hb => ?_) (fun hb => ?_)
    · replace hm := hm.1 hb
      refine regP T hS (sp := []) (ks := [6]) (bs := []) (sy' := ⟨[(6, B false)], []⟩) (by kernel_rfl) ?_
      intro a hS
      refine wret ?_
      exact fin T hS hO (fun c => c) rfl (r := [.bool false]) (by kernel_rfl) (fun χ' hM hC => ⟨false, hm, rfl⟩)
    · replace hm := hm.2 hb
      refine wskip ?_
      refine wseq ?_
      refine regP T hS (sp := [29]) (ks := [3, 4, 5, 7, 8, 32]) (bs := [4, 5, 6]) (sy' := ⟨[(3, Pt 4 0), (4, Pt 5 0), (5, Pt 6 0), (7, I r105), (8, I r109), (32, B ((r105 == 0) || (r109 == 0)))], [(4, (23, [I P.Ops, I P.States])), (5, (25, [I O.Kind, I O.A, I O.B])), (6, (25, [I S.Kind, I S.A, I S.B]))]⟩) (by kernel_rfl) ?_
      intro a hS
      refine wcond hS (b := ((r105 == 0) || (r109 == 0))) (by kernel_rfl) (fun hb => ?_) (fun hb => ?_)
      · replace hm := hm.1 hb
        refine regO ?_
        refine op1 (call hS (by kernel_rfl) (by kernel_rfl) hb18 (by kernel_rfl) (fun _ _ => rfl) (k18 _ _) ?_)
        intro v111 a w112 χ113 hE hp hS
        replace hO := hO.mv hE rfl rfl
        clear hE
        obtain ⟨r114, hr⟩ : ∃ r, law31_awake = r := ⟨_, rfl⟩
        replace hm := hm r114 hr
        rw [hr] at hp
        clear hr
        subst hp
        refine endP T hS (sp := []) (ks := [6]) (bs := []) (sy' := ⟨[(6, B r114)], []⟩) (by kernel_rfl) ?_
        intro a hS
        refine wret ?_
        exact fin T hS hO (fun c => c) rfl (r := [.bool r114]) (by kernel_rfl) (fun χ' hM hC => ⟨r114, hm, rfl⟩)
      · replace hm := hm.2 hb
        refine wskip ?_
        refine regP T hS (sp := [39, 45, 51, 57]) (ks := [3, 7, 8, 9]) (bs := [4]) (sy' := ⟨[(3, Pt 4 0), (7, I r105), (8, I r109), (9, B ((decide (O.Kind < S.Kind)) || ((O.Kind == S.Kind) && ((decide (O.A < S.A)) || ((O.A == S.A) && (decide (O.B < S.B)))))))], [(4, (23, [I P.Ops, I P.States]))]⟩) (by kernel_rfl) ?_
        intro a hS
        refine regO ?_
        refine opsP T hS 6 (sp := []) (ks := [3, 72]) (bs := [4]) (sy' := ⟨[(3, Pt 4 0), (72, B ((decide (r105 < r109)) == ((decide (O.Kind < S.Kind)) || ((O.Kind == S.Kind) && ((decide (O.A < S.A)) || ((O.A == S.A) && (decide (O.B < S.B))))))))], [(4, (23, [I P.Ops, I P.States]))]⟩) (by kernel_rfl) ?_
        intro a hS
        rcases Bool.eq_false_or_eq_true ((decide (r105 < r109)) == ((decide (O.Kind < S.Kind)) || ((O.Kind == S.Kind) && ((decide (O.A < S.A)) || ((O.A == S.A) && (decide (O.B < S.B))))))) with hb | hb
        · replace hS := hS.lit (t := 72) (by kernel_rfl) hb
          replace hm := hm.1 hb
          refine opsP T hS 1 (sp := []) (ks := [72, 73]) (bs := []) (sy' := ⟨[(72, B true), (73, V (.agg #[.int .i64 P.Ops, .int .i64 P.States]))], []⟩) (by kernel_rfl) ?_
          intro a hS
          refine op1 (call hS (by kernel_rfl) (by kernel_rfl) hb21 (by kernel_rfl) (fun _ _ => rfl) (k21 _ _ P) ?_)
          intro v115 a w116 χ117 hE hp hS
          replace hO := hO.mv hE rfl rfl
          clear hE
          obtain ⟨r118, hr⟩ : ∃ r, numbering_Check P = r := ⟨_, rfl⟩
          replace hm := hm r118 hr
          rw [hr] at hp
          clear hr
          subst hp
          refine opsP T hS 3 (sp := []) (ks := [77]) (bs := []) (sy' := ⟨[(77, B (r118 == 0))], []⟩) (by kernel_rfl) ?_
          intro a hS
          rcases Bool.eq_false_or_eq_true (r118 == 0) with hb | hb
          · replace hS := hS.lit (t := 77) (by kernel_rfl) hb
            replace hm := hm.1 hb
            refine op1 (call hS (by kernel_rfl) (by kernel_rfl) hb18 (by kernel_rfl) (fun _ _ => rfl) (k18 _ _) ?_)
            intro v119 a w120 χ121 hE hp hS
            replace hO := hO.mv hE rfl rfl
            clear hE
            obtain ⟨r122, hr⟩ : ∃ r, law31_awake = r := ⟨_, rfl⟩
            replace hm := hm r122 hr
            rw [hr] at hp
            clear hr
            subst hp
            refine endP T hS (sp := []) (ks := [6]) (bs := []) (sy' := ⟨[(6, B r122)], []⟩) (by kernel_rfl) ?_
            intro a hS
            refine wret ?_
            exact fin T hS hO (fun c => c) rfl (r := [.bool r122]) (by kernel_rfl) (fun χ' hM hC => ⟨r122, hm, rfl⟩)
          · replace hS := hS.lit (t := 77) (by kernel_rfl) hb
            replace hm := hm.2 hb
            refine endP T hS (sp := []) (ks := [6]) (bs := []) (sy' := ⟨[(6, B false)], []⟩) (by kernel_rfl) ?_
            intro a hS
            refine wret ?_
            exact fin T hS hO (fun c => c) rfl (r := [.bool false]) (by kernel_rfl) (fun χ' hM hC => ⟨false, hm, rfl⟩)
        · replace hS := hS.lit (t := 72) (by kernel_rfl) hb
          replace hm := hm.2 hb
          refine endP T hS (sp := []) (ks := [6]) (bs := []) (sy' := ⟨[(6, B false)], []⟩) (by kernel_rfl) ?_
          intro a hS
          refine wret ?_
          exact fin T hS hO (fun c => c) rfl (r := [.bool false]) (by kernel_rfl) (fun χ' hM hC => ⟨false, hm, rfl⟩)
theorem C5 (k18 : S18) (k21 : S21) (k24 : S24) (v : ∀ (P : Numbering_Size) (O : Numbering_Name) (S : Numbering_Name), VC5 P O S (fun r => r = law31_NumberingAll P O S)) : S5 := by
  intro w χ P O S   
  refine (W5 k18 k21 k24 w χ P O S   _ (v P O S)).mono ?_
  rintro _ _ _ _ ⟨r, rfl, h⟩
  exact h

end Go.Proofs.Ytlpcjbjlgeaapaa
