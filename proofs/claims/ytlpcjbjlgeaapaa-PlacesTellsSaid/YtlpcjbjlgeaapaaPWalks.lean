/- Walks: each function returns what its condition asks. Condition: the contracts of its callees, handed in. -/
import Derived.Test.YtlpcjbjlgeaapaaPVC
import Derived.Test.YtlpcjbjlgeaapaaPReps
set_option linter.all false
namespace Go.Proofs.Ytlpcjbjlgeaapaa
open Go Go.Sv
set_option maxHeartbeats 1000000
def S21 : Prop := ∀ (w : World) (χ : Nat → Nat) (s_ : Numbering_Size), Ret Try.prog 21 #[.agg #[.int .i64 s_.Ops, .int .i64 s_.States]] xnone w χ (fun w χ' v => v = .int .i64 (numbering_Check s_))
theorem hb21 : hasBody Try.prog 21 = true := by kernel_rfl
/-- replevin/numbering.Check -/
theorem W21 (w0 : World) (χ0 : Nat → Nat) (s_ : Numbering_Size) (Q : Int → Prop) (hm : VC21 s_ Q) :
    Ret Try.prog 21 #[.agg #[.int .i64 s_.Ops, .int .i64 s_.States]] xnone w0 χ0 (fun w χ' v => ∃ r, Q r ∧ v = .int .i64 r) := by
  unfold VC21 at hm
  refine enter Try.func21 rfl (vals := [.agg #[.int .i64 s_.Ops, .int .i64 s_.States]]) (by kernel_rfl) ?_
  intro ρ a hS hO hM
  clear hM
  refine regM T hS (sp := []) (ks := [1]) (bs := [2]) (sy' := ⟨[(1, Pt 2 0)], [(2, (23, [I s_.Ops, I s_.States]))]⟩) (by kernel_rfl) ?_
  intro ρ a w101 χ102 hS hE hr
  replace hO := hO.mv hE rfl rfl
  clear hE hr
  refine wseq ?_
  refine regP T hS (sp := [6, 11, 16]) (ks := [20]) (bs := []) (sy' := ⟨[(20, B ((((decide (s_.Ops < 0)) || (decide (s_.Ops > 64))) || (decide (s_.States < 1))) || (decide (s_.States > 32))))], []⟩) (by kernel_rfl) ?_
  intro a hS
  refine wcond hS (b := ((((decide (s_.Ops < 0)) || (decide (s_.Ops > 64))) || (decide (s_.States < 1))) || (decide (s_.States > 32)))) (by kernel_rfl) (fun hb => ?_) (fun hb => ?_)
  · replace hm := hm.1 hb
    refine regP T hS (sp := []) (ks := [2]) (bs := []) (sy' := ⟨[(2, I 2)], []⟩) (by kernel_rfl) ?_
    intro a hS
    refine wret ?_
    exact fin T hS hO (fun c => c) rfl (r := [.int .i64 2]) (by kernel_rfl) (fun χ' hM hC => ⟨2, hm, rfl⟩)
  · replace hm := hm.2 hb
    refine wskip ?_
    refine regP T hS (sp := []) (ks := [2]) (bs := []) (sy' := ⟨[(2, I 0)], []⟩) (by kernel_rfl) ?_
    intro a hS
    refine wret ?_
    exact fin T hS hO (fun c => c) rfl (r := [.int .i64 0]) (by kernel_rfl) (fun χ' hM hC => ⟨0, hm, rfl⟩)
theorem C21 (v : ∀ (s_ : Numbering_Size), VC21 s_ (fun r => r = numbering_Check s_)) : S21 := by
  intro w χ s_    
  refine (W21 w χ s_    _ (v s_)).mono ?_
  rintro _ _ _ _ ⟨r, rfl, h⟩
  exact h
def S22 : Prop := ∀ (w : World) (χ : Nat → Nat) (ops : Int) (states : Int), Ret Try.prog 22 #[.int .i64 ops, .int .i64 states] xnone w χ (fun w χ' v => v = .int .i64 (ref31_Check ops states))
theorem hb22 : hasBody Try.prog 22 = true := by kernel_rfl
/-- replevin/replevinref31.Check -/
theorem W22 (w0 : World) (χ0 : Nat → Nat) (ops : Int) (states : Int) (Q : Int → Prop) (hm : VC22 ops states Q) :
    Ret Try.prog 22 #[.int .i64 ops, .int .i64 states] xnone w0 χ0 (fun w χ' v => ∃ r, Q r ∧ v = .int .i64 r) := by
  unfold VC22 at hm
  refine enter Try.func22 rfl (vals := [.int .i64 ops, .int .i64 states]) (by kernel_rfl) ?_
  intro ρ a hS hO hM
  clear hM
  refine regP T hS (sp := []) (ks := [0, 1]) (bs := []) (sy' := ⟨[(0, I ops), (1, I states)], []⟩) (by kernel_rfl) ?_
  intro a hS
  refine wseq ?_
  refine regP T hS (sp := [7, 11, 15]) (ks := [18]) (bs := []) (sy' := ⟨[(18, B ((((decide (ops < 0)) || (decide (ops > 64))) || (decide (states < 1))) || (decide (states > 32))))], []⟩) (by kernel_rfl) ?_
  intro a hS
  refine wcond hS (b := ((((decide (ops < 0)) || (decide (ops > 64))) || (decide (states < 1))) || (decide (states > 32)))) (by kernel_rfl) (fun hb => ?_) (fun hb => ?_)
  · replace hm := hm.1 hb
    refine regP T hS (sp := []) (ks := [4]) (bs := []) (sy' := ⟨[(4, I 2)], []⟩) (by kernel_rfl) ?_
    intro a hS
    refine wret ?_
    exact fin T hS hO (fun c => c) rfl (r := [.int .i64 2]) (by kernel_rfl) (fun χ' hM hC => ⟨2, hm, rfl⟩)
  · replace hm := hm.2 hb
    refine wskip ?_
    refine regP T hS (sp := []) (ks := [4]) (bs := []) (sy' := ⟨[(4, I 0)], []⟩) (by kernel_rfl) ?_
    intro a hS
    refine wret ?_
    exact fin T hS hO (fun c => c) rfl (r := [.int .i64 0]) (by kernel_rfl) (fun χ' hM hC => ⟨0, hm, rfl⟩)
theorem C22 (v : ∀ (ops : Int) (states : Int), VC22 ops states (fun r => r = ref31_Check ops states)) : S22 := by
  intro w χ ops states    
  refine (W22 w χ ops states    _ (v ops states)).mono ?_
  rintro _ _ _ _ ⟨r, rfl, h⟩
  exact h
def S56 : Prop := ∀ (w : World) (χ : Nat → Nat) (s_ : Numbering_Size) (kind : Int), Ret Try.prog 56 #[.agg #[.int .i64 s_.Ops, .int .i64 s_.States], .int .i64 kind] xnone w χ (fun w χ' v => v = .tuple #[.int .i64 ((numbering_Size_block s_ kind).1), .int .i64 ((numbering_Size_block s_ kind).2.1), .int .i64 ((numbering_Size_block s_ kind).2.2)])
theorem hb56 : hasBody Try.prog 56 = true := by kernel_rfl
/-- (replevin/numbering.Size).block -/
theorem W56 (w0 : World) (χ0 : Nat → Nat) (s_ : Numbering_Size) (kind : Int) (Q : Int × Int × Int → Prop) (hm : VC56 s_ kind Q) :
    Ret Try.prog 56 #[.agg #[.int .i64 s_.Ops, .int .i64 s_.States], .int .i64 kind] xnone w0 χ0 (fun w χ' v => ∃ r, Q r ∧ v = .tuple #[.int .i64 r.1, .int .i64 r.2.1, .int .i64 r.2.2]) := by
  unfold VC56 at hm
  refine enter Try.func56 rfl (vals := [.agg #[.int .i64 s_.Ops, .int .i64 s_.States], .int .i64 kind]) (by kernel_rfl) ?_
  intro ρ a hS hO hM
  clear hM
  refine regM T hS (sp := []) (ks := [1, 2]) (bs := [3]) (sy' := ⟨[(1, I kind), (2, Pt 3 0)], [(3, (23, [I s_.Ops, I s_.States]))]⟩) (by kernel_rfl) ?_
  intro ρ a w104 χ105 hS hE hr
  replace hO := hO.mv hE rfl rfl
  clear hE hr
  refine wseq ?_
  refine regP T hS (sp := []) (ks := [2, 7]) (bs := [3]) (sy' := ⟨[(2, Pt 3 0), (7, I kind)], [(3, (23, [I s_.Ops, I s_.States]))]⟩) (by kernel_rfl) ?_
  intro a hS
  refine wblock ?_
  refine regP T hS (sp := []) (ks := [2, 7, 8]) (bs := [3]) (sy' := ⟨[(2, Pt 3 0), (7, I kind), (8, B (kind == 1))], [(3, (23, [I s_.Ops, I s_.States]))]⟩) (by kernel_rfl) ?_
  intro a hS
  refine wcond hS (b := (kind == 1)) (by kernel_rfl) (fun hb => ?_) (fun hb => ?_)
  · replace hm := hm.1 hb
    refine drawnS [3] mixed hS ?_
    intro w101 hS hE hD hH
    replace hO := hO.mv hE rfl rfl
    clear hE
    refine take T [0, 2, 4, 1, 3, 5, 6] [3] [4, 5, 6] hS (by kernel_rfl) (by kernel_rfl) (by kernel_rfl) hH (listed' := #[true, true, true, true, true, true, true]) (fuel := 0) (sy' := ⟨[(4, I 0), (5, I s_.Ops), (6, I s_.Ops)], [(3, (23, [I s_.Ops, I s_.States]))]⟩) (by kernel_rfl) (by rfl) ?_
    intro a hS
    refine drawnDone (by kernel_rfl) ?_
    clear hD hH
    replace hS := hS.sel [4, 5, 6] [] (sy' := ⟨[(4, I 0), (5, I s_.Ops), (6, I s_.Ops)], []⟩) (by kernel_rfl)
    refine wret ?_
    exact fin T hS hO (fun c => c) rfl (r := [.int .i64 0, .int .i64 s_.Ops, .int .i64 s_.Ops]) (by kernel_rfl) (fun χ' hM hC => ⟨(0, s_.Ops, s_.Ops), hm, rfl⟩)
  · replace hm := hm.2 hb
    refine regP T hS (sp := []) (ks := [2, 14]) (bs := [3]) (sy' := ⟨[(2, Pt 3 0), (14, B (kind == 2))], [(3, (23, [I s_.Ops, I s_.States]))]⟩) (by kernel_rfl) ?_
    intro a hS
    refine wcond hS (b := (kind == 2)) (by kernel_rfl) (fun hb => ?_) (fun hb => ?_)
    · replace hm := hm.1 hb
      refine drawnS [3] mixed hS ?_
      intro w102 hS hE hD hH
      replace hO := hO.mv hE rfl rfl
      clear hE
      refine take T [0, 2, 5, 1, 3, 6, 4, 7, 8, 9] [3] [4, 5, 6] hS (by kernel_rfl) (by kernel_rfl) (by kernel_rfl) hH (listed' := #[true, true, true, true, true, true, true, true, true, true]) (fuel := 0) (sy' := ⟨[(4, I (IntKind.i64.wrap (s_.Ops * s_.Ops))), (5, I 1), (6, I s_.Ops)], [(3, (23, [I s_.Ops, I s_.States]))]⟩) (by kernel_rfl) (by rfl) ?_
      intro a hS
      refine drawnDone (by kernel_rfl) ?_
      clear hD hH
      replace hS := hS.sel [4, 5, 6] [] (sy' := ⟨[(4, I (IntKind.i64.wrap (s_.Ops * s_.Ops))), (5, I 1), (6, I s_.Ops)], []⟩) (by kernel_rfl)
      refine wret ?_
      exact fin T hS hO (fun c => c) rfl (r := [.int .i64 (IntKind.i64.wrap (s_.Ops * s_.Ops)), .int .i64 1, .int .i64 s_.Ops]) (by kernel_rfl) (fun χ' hM hC => ⟨(IntKind.i64.wrap (s_.Ops * s_.Ops), 1, s_.Ops), hm, rfl⟩)
    · replace hm := hm.2 hb
      refine wskip ?_
      refine drawnS [3] mixed hS ?_
      intro w103 hS hE hD hH
      replace hO := hO.mv hE rfl rfl
      clear hE
      refine take T [0, 2, 5, 8, 10, 1, 3, 6, 9, 11, 4, 12, 7, 13, 14, 15] [3] [4, 5, 6] hS (by kernel_rfl) (by kernel_rfl) (by kernel_rfl) hH (listed' := #[true, true, true, true, true, true, true, true, true, true, true, true, true, true, true, true]) (fuel := 0) (sy' := ⟨[(4, I (IntKind.i64.wrap ((IntKind.i64.wrap (s_.Ops * s_.Ops)) + s_.Ops))), (5, I s_.States), (6, I (IntKind.i64.wrap (s_.Ops + 1)))], [(3, (23, [I s_.Ops, I s_.States]))]⟩) (by kernel_rfl) (by rfl) ?_
      intro a hS
      refine drawnDone (by kernel_rfl) ?_
      clear hD hH
      replace hS := hS.sel [4, 5, 6] [] (sy' := ⟨[(4, I (IntKind.i64.wrap ((IntKind.i64.wrap (s_.Ops * s_.Ops)) + s_.Ops))), (5, I s_.States), (6, I (IntKind.i64.wrap (s_.Ops + 1)))], []⟩) (by kernel_rfl)
      refine wret ?_
      exact fin T hS hO (fun c => c) rfl (r := [.int .i64 (IntKind.i64.wrap ((IntKind.i64.wrap (s_.Ops * s_.Ops)) + s_.Ops)), .int .i64 s_.States, .int .i64 (IntKind.i64.wrap (s_.Ops + 1))]) (by kernel_rfl) (fun χ' hM hC => ⟨(IntKind.i64.wrap ((IntKind.i64.wrap (s_.Ops * s_.Ops)) + s_.Ops), s_.States, IntKind.i64.wrap (s_.Ops + 1)), hm, rfl⟩)
theorem C56 (v : ∀ (s_ : Numbering_Size) (kind : Int), VC56 s_ kind (fun r => r = numbering_Size_block s_ kind)) : S56 := by
  intro w χ s_ kind    
  refine (W56 w χ s_ kind    _ (v s_ kind)).mono ?_
  rintro _ _ _ _ ⟨r, rfl, h⟩
  exact h
def S23 : Prop := ∀ (w : World) (χ : Nat → Nat) (s_ : Numbering_Size), Ret Try.prog 23 #[.agg #[.int .i64 s_.Ops, .int .i64 s_.States]] xnone w χ (fun w χ' v => v = .int .i64 (numbering_Vars s_))
theorem hb23 : hasBody Try.prog 23 = true := by kernel_rfl
/-- replevin/numbering.Vars -/
theorem W23 (k21 : S21) (k56 : S56) (w0 : World) (χ0 : Nat → Nat) (s_ : Numbering_Size) (Q : Int → Prop) (hm : VC23 s_ Q) :
    Ret Try.prog 23 #[.agg #[.int .i64 s_.Ops, .int .i64 s_.States]] xnone w0 χ0 (fun w χ' v => ∃ r, Q r ∧ v = .int .i64 r) := by
  unfold VC23 at hm
  refine enter Try.func23 rfl (vals := [.agg #[.int .i64 s_.Ops, .int .i64 s_.States]]) (by kernel_rfl) ?_
  intro ρ a hS hO hM
  clear hM
  refine regM T hS (sp := []) (ks := [1]) (bs := [2]) (sy' := ⟨[(1, Pt 2 0)], [(2, (23, [I s_.Ops, I s_.States]))]⟩) (by kernel_rfl) ?_
  intro ρ a w109 χ110 hS hE hr
  replace hO := hO.mv hE rfl rfl
  clear hE hr
  refine wseq ?_
  refine regO ?_
  refine opsP T hS 1 (sp := []) (ks := [1, 6]) (bs := [2]) (sy' := ⟨[(1, Pt 2 0), (6, V (.agg #[.int .i64 s_.Ops, .int .i64 s_.States]))], [(2, (23, [I s_.Ops, I s_.States]))]⟩) (by kernel_rfl) ?_
  intro a hS
  refine op1 (call hS (by kernel_rfl) (by kernel_rfl) hb21 (by kernel_rfl) (fun _ _ => rfl) (k21 _ _ s_) ?_)
  intro v101 a w102 χ103 hE hp hS
  replace hO := hO.mv hE rfl rfl
  clear hE
  obtain ⟨r104, hr⟩ : ∃ r, numbering_Check s_ = r := ⟨_, rfl⟩
  replace hm := hm r104 hr
  rw [hr] at hp
  clear hr
  subst hp
  refine endP T hS (sp := []) (ks := [1, 8]) (bs := [2]) (sy' := ⟨[(1, Pt 2 0), (8, B (r104 != 0))], [(2, (23, [I s_.Ops, I s_.States]))]⟩) (by kernel_rfl) ?_
  intro a hS
  refine wcond hS (b := (r104 != 0)) (by kernel_rfl) (fun hb => ?_) (fun hb => ?_)
  · replace hm := hm.1 hb
    refine regP T hS (sp := []) (ks := [2]) (bs := []) (sy' := ⟨[(2, I 0)], []⟩) (by kernel_rfl) ?_
    intro a hS
    refine wret ?_
    exact fin T hS hO (fun c => c) rfl (r := [.int .i64 0]) (by kernel_rfl) (fun χ' hM hC => ⟨0, hm, rfl⟩)
  · replace hm := hm.2 hb
    refine wskip ?_
    refine regO ?_
    refine opsP T hS 1 (sp := []) (ks := [10]) (bs := []) (sy' := ⟨[(10, V (.agg #[.int .i64 s_.Ops, .int .i64 s_.States]))], []⟩) (by kernel_rfl) ?_
    intro a hS
    refine op1 (call hS (by kernel_rfl) (by kernel_rfl) hb56 (by kernel_rfl) (fun _ _ => rfl) (k56 _ _ s_ 3) ?_)
    intro v105 a w106 χ107 hE hp hS
    replace hO := hO.mv hE rfl rfl
    clear hE
    obtain ⟨r108, hr⟩ : ∃ r, numbering_Size_block s_ 3 = r := ⟨_, rfl⟩
    replace hm := hm r108 hr
    rw [hr] at hp
    clear hr
    subst hp
    refine endP T hS (sp := []) (ks := [3, 4, 5]) (bs := []) (sy' := ⟨[(3, I r108.1), (4, I r108.2.1), (5, I r108.2.2)], []⟩) (by kernel_rfl) ?_
    intro a hS
    refine regP T hS (sp := []) (ks := [2]) (bs := []) (sy' := ⟨[(2, I (IntKind.i64.wrap (r108.1 + (IntKind.i64.wrap (r108.2.1 * r108.2.2)))))], []⟩) (by kernel_rfl) ?_
    intro a hS
    refine wret ?_
    exact fin T hS hO (fun c => c) rfl (r := [.int .i64 (IntKind.i64.wrap (r108.1 + (IntKind.i64.wrap (r108.2.1 * r108.2.2))))]) (by kernel_rfl) (fun χ' hM hC => ⟨(IntKind.i64.wrap (r108.1 + (IntKind.i64.wrap (r108.2.1 * r108.2.2)))), hm, rfl⟩)
theorem C23 (k21 : S21) (k56 : S56) (v : ∀ (s_ : Numbering_Size), VC23 s_ (fun r => r = numbering_Vars s_)) : S23 := by
  intro w χ s_    
  refine (W23 k21 k56 w χ s_    _ (v s_)).mono ?_
  rintro _ _ _ _ ⟨r, rfl, h⟩
  exact h
def S24 : Prop := ∀ (w : World) (χ : Nat → Nat) (s_ : Numbering_Size) (n_ : Numbering_Name), Ret Try.prog 24 #[.agg #[.int .i64 s_.Ops, .int .i64 s_.States], .agg #[.int .i64 n_.Kind, .int .i64 n_.A, .int .i64 n_.B]] xnone w χ (fun w χ' v => v = .int .i64 (numbering_Var s_ n_))
theorem hb24 : hasBody Try.prog 24 = true := by kernel_rfl
/-- replevin/numbering.Var -/
theorem W24 (k21 : S21) (k56 : S56) (w0 : World) (χ0 : Nat → Nat) (s_ : Numbering_Size) (n_ : Numbering_Name) (Q : Int → Prop) (hm : VC24 s_ n_ Q) :
    Ret Try.prog 24 #[.agg #[.int .i64 s_.Ops, .int .i64 s_.States], .agg #[.int .i64 n_.Kind, .int .i64 n_.A, .int .i64 n_.B]] xnone w0 χ0 (fun w χ' v => ∃ r, Q r ∧ v = .int .i64 r) := by
  unfold VC24 at hm
  refine enter Try.func24 rfl (vals := [.agg #[.int .i64 s_.Ops, .int .i64 s_.States], .agg #[.int .i64 n_.Kind, .int .i64 n_.A, .int .i64 n_.B]]) (by kernel_rfl) ?_
  intro ρ a hS hO hM
  clear hM
  refine regM T hS (sp := []) (ks := [2, 3]) (bs := [3, 4]) (sy' := ⟨[(2, Pt 3 0), (3, Pt 4 0)], [(3, (23, [I s_.Ops, I s_.States])), (4, (25, [I n_.Kind, I n_.A, I n_.B]))]⟩) (by kernel_rfl) ?_
  intro ρ a w109 χ110 hS hE hr
  replace hO := hO.mv hE rfl rfl
  clear hE hr
  refine wseq ?_
  refine regO ?_
  refine opsP T hS 1 (sp := []) (ks := [2, 3, 9]) (bs := [3, 4]) (sy' := ⟨[(2, Pt 3 0), (3, Pt 4 0), (9, V (.agg #[.int .i64 s_.Ops, .int .i64 s_.States]))], [(3, (23, [I s_.Ops, I s_.States])), (4, (25, [I n_.Kind, I n_.A, I n_.B]))]⟩) (by kernel_rfl) ?_
  intro a hS
  refine op1 (call hS (by kernel_rfl) (by kernel_rfl) hb21 (by kernel_rfl) (fun _ _ => rfl) (k21 _ _ s_) ?_)
  intro v101 a w102 χ103 hE hp hS
  replace hO := hO.mv hE rfl rfl
  clear hE
  obtain ⟨r104, hr⟩ : ∃ r, numbering_Check s_ = r := ⟨_, rfl⟩
  replace hm := hm r104 hr
  rw [hr] at hp
  clear hr
  subst hp
  refine endP T hS (sp := [12, 17]) (ks := [2, 3, 21]) (bs := [3, 4]) (sy' := ⟨[(2, Pt 3 0), (3, Pt 4 0), (21, B (((r104 != 0) || (decide (n_.Kind ≤ 0))) || (decide (n_.Kind > 3))))], [(3, (23, [I s_.Ops, I s_.States])), (4, (25, [I n_.Kind, I n_.A, I n_.B]))]⟩) (by kernel_rfl) ?_
  intro a hS
  refine wcond hS (b := (((r104 != 0) || (decide (n_.Kind ≤ 0))) || (decide (n_.Kind > 3)))) (by kernel_rfl) (fun hb => ?_) (fun hb => ?_)
  · replace hm := hm.1 hb
    refine regP T hS (sp := []) (ks := [4]) (bs := []) (sy' := ⟨[(4, I 0)], []⟩) (by kernel_rfl) ?_
    intro a hS
    refine wret ?_
    exact fin T hS hO (fun c => c) rfl (r := [.int .i64 0]) (by kernel_rfl) (fun χ' hM hC => ⟨0, hm, rfl⟩)
  · replace hm := hm.2 hb
    refine wskip ?_
    refine regP T hS (sp := []) (ks := [3, 5]) (bs := [4]) (sy' := ⟨[(3, Pt 4 0), (5, .f (.func 56) [.v (.agg #[.int .i64 s_.Ops, .int .i64 s_.States])] [])], [(4, (25, [I n_.Kind, I n_.A, I n_.B]))]⟩) (by kernel_rfl) ?_
    intro a hS
    refine regO ?_
    refine opsP T hS 3 (sp := []) (ks := [3, 25, 27]) (bs := [4]) (sy' := ⟨[(3, Pt 4 0), (25, .f (.func 56) [.v (.agg #[.int .i64 s_.Ops, .int .i64 s_.States])] []), (27, I n_.Kind)], [(4, (25, [I n_.Kind, I n_.A, I n_.B]))]⟩) (by kernel_rfl) ?_
    intro a hS
    refine op1 (callC (fi := [.v (.agg #[.int .i64 s_.Ops, .int .i64 s_.States])]) (cp := []) hS (by kernel_rfl) (by kernel_rfl) hb56 (by kernel_rfl) (by kernel_rfl) (fun _ _ => rfl) (k56 _ _ s_ n_.Kind) ?_)
    intro v105 a w106 χ107 hE hp hS
    replace hO := hO.mv hE rfl rfl
    clear hE
    obtain ⟨r108, hr⟩ : ∃ r, numbering_Size_block s_ n_.Kind = r := ⟨_, rfl⟩
    replace hm := hm r108 hr
    rw [hr] at hp
    clear hr
    subst hp
    refine endP T hS (sp := []) (ks := [3, 6, 7, 8]) (bs := [4]) (sy' := ⟨[(3, Pt 4 0), (6, I r108.1), (7, I r108.2.1), (8, I r108.2.2)], [(4, (25, [I n_.Kind, I n_.A, I n_.B]))]⟩) (by kernel_rfl) ?_
    intro a hS
    refine wseq ?_
    refine regP T hS (sp := [35, 41, 46]) (ks := [3, 6, 7, 51]) (bs := [4]) (sy' := ⟨[(3, Pt 4 0), (6, I r108.1), (7, I r108.2.1), (51, B ((((decide (n_.A < 0)) || (decide (n_.A ≥ r108.2.2))) || (decide (n_.B < 0))) || (decide (n_.B ≥ r108.2.1))))], [(4, (25, [I n_.Kind, I n_.A, I n_.B]))]⟩) (by kernel_rfl) ?_
    intro a hS
    refine wcond hS (b := ((((decide (n_.A < 0)) || (decide (n_.A ≥ r108.2.2))) || (decide (n_.B < 0))) || (decide (n_.B ≥ r108.2.1)))) (by kernel_rfl) (fun hb => ?_) (fun hb => ?_)
    · replace hm := hm.1 hb
      refine regP T hS (sp := []) (ks := [4]) (bs := []) (sy' := ⟨[(4, I 0)], []⟩) (by kernel_rfl) ?_
      intro a hS
      refine wret ?_
      exact fin T hS hO (fun c => c) rfl (r := [.int .i64 0]) (by kernel_rfl) (fun χ' hM hC => ⟨0, hm, rfl⟩)
    · replace hm := hm.2 hb
      refine wskip ?_
      refine regP T hS (sp := []) (ks := [4]) (bs := []) (sy' := ⟨[(4, I (IntKind.i64.wrap ((IntKind.i64.wrap ((IntKind.i64.wrap (r108.1 + (IntKind.i64.wrap (n_.A * r108.2.1)))) + n_.B)) + 1)))], []⟩) (by kernel_rfl) ?_
      intro a hS
      refine wret ?_
      exact fin T hS hO (fun c => c) rfl (r := [.int .i64 (IntKind.i64.wrap ((IntKind.i64.wrap ((IntKind.i64.wrap (r108.1 + (IntKind.i64.wrap (n_.A * r108.2.1)))) + n_.B)) + 1))]) (by kernel_rfl) (fun χ' hM hC => ⟨(IntKind.i64.wrap ((IntKind.i64.wrap ((IntKind.i64.wrap (r108.1 + (IntKind.i64.wrap (n_.A * r108.2.1)))) + n_.B)) + 1)), hm, rfl⟩)
theorem C24 (k21 : S21) (k56 : S56) (v : ∀ (s_ : Numbering_Size) (n_ : Numbering_Name), VC24 s_ n_ (fun r => r = numbering_Var s_ n_)) : S24 := by
  intro w χ s_ n_    
  refine (W24 k21 k56 w χ s_ n_    _ (v s_ n_)).mono ?_
  rintro _ _ _ _ ⟨r, rfl, h⟩
  exact h
def S64 : Prop := ∀ (w : World) (χ : Nat → Nat) (s_ : List Int) (v_ : Int) (a1 : Option Addr) (c1 : Nat), RS tI w χ a1 s_ c1 → Ret Try.prog 64 #[.slice a1 s_.length c1, .int .i64 v_] xnone w χ (fun w χ' v => v = .int .i64 (slices_Index_int_int s_ v_))
theorem hb64 : hasBody Try.prog 64 = true := by kernel_rfl
/-- slices.Index[[]int,int] -/
theorem W64 (w0 : World) (χ0 : Nat → Nat) (s_ : List Int) (v_ : Int) (a1 : Option Addr) (c1 : Nat) (Q : Int → Prop) (hm : VC64 s_ v_ Q) (h1 : RS tI w0 χ0 a1 s_ c1) :
    Ret Try.prog 64 #[.slice a1 s_.length c1, .int .i64 v_] xnone w0 χ0 (fun w χ' v => ∃ r, Q r ∧ v = .int .i64 r) := by
  unfold VC64 at hm
  replace hm := hm (h1.sm (by kernel_rfl))
  refine enter Try.func64 rfl (vals := [.slice a1 s_.length c1, .int .i64 v_]) (by kernel_rfl) ?_
  intro ρ a hS hO hM
  replace h1 := h1.m0 hM
  clear hM
  refine regP T hS (sp := []) (ks := [0, 1]) (bs := []) (sy' := ⟨[(0, V (.slice a1 s_.length c1)), (1, I v_)], []⟩) (by kernel_rfl) ?_
  intro a hS
  refine wcut (fun a w => ∃ (ρ : Nat → Nat) (χ : Nat → Nat), VC64_J1 Q ∧ St Try.f64.ntmps ⟨[], []⟩ ρ a w χ ∧ Old w0 χ0 w χ) ?_ ?_
  · refine regP T hS (sp := []) (ks := [0, 1, 7, 8]) (bs := []) (sy' := ⟨[(0, V (.slice a1 s_.length c1)), (1, I v_), (7, I ((s_.length : Nat) : Int)), (8, I 0)], []⟩) (by kernel_rfl) ?_
    intro a hS
    refine wblock ?_
    obtain ⟨I1, μ1, hm0, hm⟩ := hm
    refine wloop (σ := Int) (fun s a w => ∃ (ρ : Nat → Nat) (χ : Nat → Nat), I1 s ∧ St Try.f64.ntmps ⟨[(0, V (.slice a1 s_.length c1)), (1, I v_), (7, I ((s_.length : Nat) : Int)), (8, I s)], []⟩ ρ a w χ ∧ Old w0 χ0 w χ ∧ RS tI w χ a1 s_ c1) (fun s => μ1 s) (0) ?_ ?_
    · exact ⟨ρ, _, hm0, hS.sel [0, 1, 7, 8] [] (by kernel_rfl), hO, h1⟩
    · rintro x_102 a w107 ⟨ρ, χ106, hI, hS, hO, h101⟩
      replace hm := hm x_102 hI
      clear hI hm0
      refine regP T hS (sp := []) (ks := [0, 1, 7, 8, 9]) (bs := []) (sy' := ⟨[(0, V (.slice a1 s_.length c1)), (1, I v_), (7, I ((s_.length : Nat) : Int)), (8, I x_102), (9, B (decide (x_102 < ((s_.length : Nat) : Int))))], []⟩) (by kernel_rfl) ?_
      intro a hS
      refine wseq ?_
      refine wcond hS (b := decide (x_102 < ((s_.length : Nat) : Int))) (by kernel_rfl) (fun hb => ?_) (fun hb => ?_)
      · replace hm := hm.1 hb
        refine wskip ?_
        refine wseq ?_
        refine wblock ?_
        refine regP T hS (sp := []) (ks := [0, 1, 5, 7, 8]) (bs := []) (sy' := ⟨[(0, V (.slice a1 s_.length c1)), (1, I v_), (5, I x_102), (7, I ((s_.length : Nat) : Int)), (8, I x_102)], []⟩) (by kernel_rfl) ?_
        intro a hS
        refine regO ?_
        refine opsP T hS 3 (sp := []) (ks := [0, 1, 5, 7, 8, 11, 12, 13]) (bs := []) (sy' := ⟨[(0, V (.slice a1 s_.length c1)), (1, I v_), (5, I x_102), (7, I ((s_.length : Nat) : Int)), (8, I x_102), (11, I v_), (12, V (.slice a1 s_.length c1)), (13, I x_102)], []⟩) (by kernel_rfl) ?_
        intro a hS
        obtain ⟨hq, hm⟩ := hm
        refine op1 (index (e := 3) (k := .i64) T hS (by kernel_rfl) (by kernel_rfl) (by kernel_rfl) (by kernel_rfl) h101 (by kernel_rfl) (by kernel_rfl) hq.1 hq.2 ?_)
        intro A103 a h104 hS
        clear hq
        refine op1 (load1 T hS (by kernel_rfl) (by kernel_rfl) (by kernel_rfl) h104 rfl (by kernel_rfl) ?_)
        intro v105 a hv hS
        cases hv
        refine endP T hS (sp := []) (ks := [0, 1, 5, 7, 8, 16]) (bs := []) (sy' := ⟨[(0, V (.slice a1 s_.length c1)), (1, I v_), (5, I x_102), (7, I ((s_.length : Nat) : Int)), (8, I x_102), (16, B (v_ == (gi s_ x_102)))], []⟩) (by kernel_rfl) ?_
        intro a hS
        refine wcond hS (b := (v_ == (gi s_ x_102))) (by kernel_rfl) (fun hb => ?_) (fun hb => ?_)
        · replace hm := hm.1 hb
          refine regP T hS (sp := []) (ks := [4]) (bs := []) (sy' := ⟨[(4, I x_102)], []⟩) (by kernel_rfl) ?_
          intro a hS
          refine wret ?_
          exact fin T hS hO (fun c => c) rfl (r := [.int .i64 x_102]) (by kernel_rfl) (fun χ' hM hC => ⟨x_102, hm, rfl⟩)
        · replace hm := hm.2 hb
          refine wskip ?_
          refine region (endP T hS (sp := []) (ks := [0, 1, 7, 8]) (bs := []) (sy' := ⟨[(0, V (.slice a1 s_.length c1)), (1, I v_), (7, I ((s_.length : Nat) : Int)), (8, I (IntKind.i64.wrap (x_102 + 1)))], []⟩) (by kernel_rfl) ?_)
          intro a hS
          exact ⟨IntKind.i64.wrap (x_102 + 1), ⟨ρ, _, hm.1, hS.sel [0, 1, 7, 8] [] (by kernel_rfl), hO, h101⟩, hm.2⟩
      · replace hm := hm.2 hb
        refine wexit (by rfl) ?_
        exact ⟨ρ, _, hm, hS.sel [] [] (by kernel_rfl), hO⟩
  · rintro a w109 ⟨ρ, χ108, hm, hS, hO⟩
    unfold VC64_J1 at hm
    refine regP T hS (sp := []) (ks := [4]) (bs := []) (sy' := ⟨[(4, I (-1))], []⟩) (by kernel_rfl) ?_
    intro a hS
    refine wret ?_
    exact fin T hS hO (fun c => c) rfl (r := [.int .i64 (-1)]) (by kernel_rfl) (fun χ' hM hC => ⟨(-1), hm, rfl⟩)
theorem C64 (v : ∀ (s_ : List Int) (v_ : Int), VC64 s_ v_ (fun r => r = slices_Index_int_int s_ v_)) : S64 := by
  intro w χ s_ v_ a1 c1   h1
  refine (W64 w χ s_ v_ a1 c1   _ (v s_ v_) h1).mono ?_
  rintro _ _ _ _ ⟨r, rfl, h⟩
  exact h
def S68 : Prop := ∀ (w : World) (χ : Nat → Nat) (s_ : List Int) (v_ : Int) (a1 : Option Addr) (c1 : Nat), RS tI w χ a1 s_ c1 → Ret Try.prog 68 #[.slice a1 s_.length c1, .int .i64 v_] xnone w χ (fun w χ' v => v = .bool (slices_Contains_int_int s_ v_))
theorem hb68 : hasBody Try.prog 68 = true := by kernel_rfl
/-- slices.Contains[[]int,int] -/
theorem W68 (k64 : S64) (w0 : World) (χ0 : Nat → Nat) (s_ : List Int) (v_ : Int) (a1 : Option Addr) (c1 : Nat) (Q : Bool → Prop) (hm : VC68 s_ v_ Q) (h1 : RS tI w0 χ0 a1 s_ c1) :
    Ret Try.prog 68 #[.slice a1 s_.length c1, .int .i64 v_] xnone w0 χ0 (fun w χ' v => ∃ r, Q r ∧ v = .bool r) := by
  unfold VC68 at hm
  replace hm := hm (h1.sm (by kernel_rfl))
  refine enter Try.func68 rfl (vals := [.slice a1 s_.length c1, .int .i64 v_]) (by kernel_rfl) ?_
  intro ρ a hS hO hM
  replace h1 := h1.m0 hM
  clear hM
  refine regP T hS (sp := []) (ks := [0, 1]) (bs := []) (sy' := ⟨[(0, V (.slice a1 s_.length c1)), (1, I v_)], []⟩) (by kernel_rfl) ?_
  intro a hS
  refine regO ?_
  refine opsP T hS 2 (sp := []) (ks := [5, 6]) (bs := []) (sy' := ⟨[(5, V (.slice a1 s_.length c1)), (6, I v_)], []⟩) (by kernel_rfl) ?_
  intro a hS
  refine op1 (call hS (by kernel_rfl) (by kernel_rfl) hb64 (by kernel_rfl) (fun _ _ => rfl) (k64 _ _ s_ v_ a1 c1 h1) ?_)
  intro v101 a w102 χ103 hE hp hS
  replace hO := hO.mv hE rfl rfl
  replace h1 := h1.mv hE rfl
  clear hE
  obtain ⟨r104, hr⟩ : ∃ r, slices_Index_int_int s_ v_ = r := ⟨_, rfl⟩
  replace hm := hm r104 hr
  rw [hr] at hp
  clear hr
  subst hp
  refine endP T hS (sp := []) (ks := [4]) (bs := []) (sy' := ⟨[(4, B (decide (r104 ≥ 0)))], []⟩) (by kernel_rfl) ?_
  intro a hS
  refine wret ?_
  exact fin T hS hO (fun c => c) rfl (r := [.bool (decide (r104 ≥ 0))]) (by kernel_rfl) (fun χ' hM hC => ⟨(decide (r104 ≥ 0)), hm, rfl⟩)
theorem C68 (k64 : S64) (v : ∀ (s_ : List Int) (v_ : Int), VC68 s_ v_ (fun r => r = slices_Contains_int_int s_ v_)) : S68 := by
  intro w χ s_ v_ a1 c1   h1
  refine (W68 k64 w χ s_ v_ a1 c1   _ (v s_ v_) h1).mono ?_
  rintro _ _ _ _ ⟨r, rfl, h⟩
  exact h
def S71 : Prop := ∀ (w : World) (χ : Nat → Nat) (ops : Int) (states : Int) (a_ : Int) (b_ : Int), Ret Try.prog 71 #[.int .i64 ops, .int .i64 states, .int .i64 a_, .int .i64 b_] xnone w χ (fun w χ' v => v = .int .i64 (ref31_At ops states a_ b_))
theorem hb71 : hasBody Try.prog 71 = true := by kernel_rfl
/-- replevin/replevinref31.At -/
theorem W71 (w0 : World) (χ0 : Nat → Nat) (ops : Int) (states : Int) (a_ : Int) (b_ : Int) (Q : Int → Prop) (hm : VC71 ops states a_ b_ Q) :
    Ret Try.prog 71 #[.int .i64 ops, .int .i64 states, .int .i64 a_, .int .i64 b_] xnone w0 χ0 (fun w χ' v => ∃ r, Q r ∧ v = .int .i64 r) := by
  unfold VC71 at hm
  refine enter Try.func71 rfl (vals := [.int .i64 ops, .int .i64 states, .int .i64 a_, .int .i64 b_]) (by kernel_rfl) ?_
  intro ρ a hS hO hM
  clear hM
  refine regP T hS (sp := []) (ks := [0, 2, 3]) (bs := []) (sy' := ⟨[(0, I ops), (2, I a_), (3, I b_)], []⟩) (by kernel_rfl) ?_
  intro a hS
  refine regP T hS (sp := []) (ks := [8]) (bs := []) (sy' := ⟨[(8, I (IntKind.i64.wrap ((IntKind.i64.wrap ((IntKind.i64.wrap (a_ * ops)) + b_)) + 1)))], []⟩) (by kernel_rfl) ?_
  intro a hS
  refine wret ?_
  exact fin T hS hO (fun c => c) rfl (r := [.int .i64 (IntKind.i64.wrap ((IntKind.i64.wrap ((IntKind.i64.wrap (a_ * ops)) + b_)) + 1))]) (by kernel_rfl) (fun χ' hM hC => ⟨(IntKind.i64.wrap ((IntKind.i64.wrap ((IntKind.i64.wrap (a_ * ops)) + b_)) + 1)), hm, rfl⟩)
theorem C71 (v : ∀ (ops : Int) (states : Int) (a_ : Int) (b_ : Int), VC71 ops states a_ b_ (fun r => r = ref31_At ops states a_ b_)) : S71 := by
  intro w χ ops states a_ b_    
  refine (W71 w χ ops states a_ b_    _ (v ops states a_ b_)).mono ?_
  rintro _ _ _ _ ⟨r, rfl, h⟩
  exact h
def S34 : Prop := ∀ (w : World) (χ : Nat → Nat) (a_ : List Int) (b_ : List Int) (a1 : Option Addr) (c1 : Nat) (a2 : Option Addr) (c2 : Nat), RS tI w χ a1 a_ c1 → RS tI w χ a2 b_ c2 → Ret Try.prog 34 #[.slice a1 a_.length c1, .slice a2 b_.length c2] xnone w χ (fun w χ' v => v = .bool (ref01_SameInts a_ b_))
theorem hb34 : hasBody Try.prog 34 = true := by kernel_rfl
/-- replevin/replevinref01.SameInts -/
theorem W34 (w0 : World) (χ0 : Nat → Nat) (a_ : List Int) (b_ : List Int) (a1 : Option Addr) (c1 : Nat) (a2 : Option Addr) (c2 : Nat) (Q : Bool → Prop) (hm : VC34 a_ b_ Q) (h1 : RS tI w0 χ0 a1 a_ c1) (h2 : RS tI w0 χ0 a2 b_ c2) :
    Ret Try.prog 34 #[.slice a1 a_.length c1, .slice a2 b_.length c2] xnone w0 χ0 (fun w χ' v => ∃ r, Q r ∧ v = .bool r) := by
  unfold VC34 at hm
  replace hm := hm (h1.sm (by kernel_rfl))
  replace hm := hm (h2.sm (by kernel_rfl))
  refine enter Try.func34 rfl (vals := [.slice a1 a_.length c1, .slice a2 b_.length c2]) (by kernel_rfl) ?_
  intro ρ a hS hO hM
  replace h1 := h1.m0 hM
  replace h2 := h2.m0 hM
  clear hM
  refine regP T hS (sp := []) (ks := [0, 1]) (bs := []) (sy' := ⟨[(0, V (.slice a1 a_.length c1)), (1, V (.slice a2 b_.length c2))], []⟩) (by kernel_rfl) ?_
  intro a hS
  refine wseq ?_
  refine regP T hS (sp := []) (ks := [0, 1, 10]) (bs := []) (sy' := ⟨[(0, V (.slice a1 a_.length c1)), (1, V (.slice a2 b_.length c2)), (10, B (((a_.length : Nat) : Int) != ((b_.length : Nat) : Int)))], []⟩) (by kernel_rfl) ?_
  intro a hS
  refine wcond hS (b := (((a_.length : Nat) : Int) != ((b_.length : Nat) : Int))) (by kernel_rfl) (fun hb => ?_) (fun hb => ?_)
  · replace hm := hm.1 hb
    refine regP T hS (sp := []) (ks := [4]) (bs := []) (sy' := ⟨[(4, B false)], []⟩) (by kernel_rfl) ?_
    intro a hS
    refine wret ?_
    exact fin T hS hO (fun c => c) rfl (r := [.bool false]) (by kernel_rfl) (fun χ' hM hC => ⟨false, hm, rfl⟩)
  · replace hm := hm.2 hb
    refine wskip ?_
    refine wcut (fun a w => ∃ (ρ : Nat → Nat) (χ : Nat → Nat), VC34_J1 Q ∧ St Try.f34.ntmps ⟨[], []⟩ ρ a w χ ∧ Old w0 χ0 w χ) ?_ ?_
    · refine regP T hS (sp := []) (ks := [0, 1, 5]) (bs := []) (sy' := ⟨[(0, V (.slice a1 a_.length c1)), (1, V (.slice a2 b_.length c2)), (5, I 0)], []⟩) (by kernel_rfl) ?_
      intro a hS
      refine wblock ?_
      obtain ⟨I1, μ1, hm0, hm⟩ := hm
      refine wloop (σ := Int) (fun s a w => ∃ (ρ : Nat → Nat) (χ : Nat → Nat), I1 s ∧ St Try.f34.ntmps ⟨[(0, V (.slice a1 a_.length c1)), (1, V (.slice a2 b_.length c2)), (5, I s)], []⟩ ρ a w χ ∧ Old w0 χ0 w χ ∧ RS tI w χ a1 a_ c1 ∧ RS tI w χ a2 b_ c2) (fun s => μ1 s) (0) ?_ ?_
      · exact ⟨ρ, _, hm0, hS.sel [0, 1, 5] [] (by kernel_rfl), hO, h1, h2⟩
      · rintro i_103 a w112 ⟨ρ, χ111, hI, hS, hO, h101, h102⟩
        replace hm := hm i_103 hI
        clear hI hm0
        refine wseq ?_
        refine regP T hS (sp := []) (ks := [0, 1, 5, 14]) (bs := []) (sy' := ⟨[(0, V (.slice a1 a_.length c1)), (1, V (.slice a2 b_.length c2)), (5, I i_103), (14, B (decide (i_103 < ((a_.length : Nat) : Int))))], []⟩) (by kernel_rfl) ?_
        intro a hS
        refine wcond hS (b := decide (i_103 < ((a_.length : Nat) : Int))) (by kernel_rfl) (fun hb => ?_) (fun hb => ?_)
        · replace hm := hm.1 hb
          refine wskip ?_
          refine wseq ?_
          refine wblock ?_
          refine drawnS [] mixed hS ?_
          intro w104 hS hE hD hH
          replace hO := hO.mv hE rfl rfl
          replace h101 := h101.mv hE rfl
          replace h102 := h102.mv hE rfl
          clear hE
          refine take T [0, 1, 4, 5] [] [0, 1, 5, 17, 18, 21, 22] hS (by kernel_rfl) (by kernel_rfl) (by kernel_rfl) hH (listed' := #[true, true, false, false, true, true, false, false, false]) (fuel := 5) (sy' := ⟨[(0, V (.slice a1 a_.length c1)), (1, V (.slice a2 b_.length c2)), (5, I i_103), (17, V (.slice a1 a_.length c1)), (18, I i_103), (21, V (.slice a2 b_.length c2)), (22, I i_103)], []⟩) (by kernel_rfl) (by rfl) ?_
          intro a hS
          obtain ⟨hq, hm⟩ := hm
          refine dindex (e := 3) (k := .i64) T 2 hS (by kernel_rfl) (by kernel_rfl) (by kernel_rfl) (by rfl) (by kernel_rfl) hH (by kernel_rfl) (by kernel_rfl) h101 (by kernel_rfl) (by kernel_rfl) hq.1 hq.2 ?_
          intro A105 a h106 hS
          clear hq
          have h106b := h106.here
          refine dload1 T 3 hS (by kernel_rfl) (by kernel_rfl) (by kernel_rfl) (by rfl) (by kernel_rfl) hH (by kernel_rfl) h106 h106b rfl (by kernel_rfl) ?_
          intro v107 a hv hS
          cases hv
          obtain ⟨hq, hm⟩ := hm
          refine dindex (e := 3) (k := .i64) T 6 hS (by kernel_rfl) (by kernel_rfl) (by kernel_rfl) (by rfl) (by kernel_rfl) hH (by kernel_rfl) (by kernel_rfl) h102 (by kernel_rfl) (by kernel_rfl) hq.1 hq.2 ?_
          intro A108 a h109 hS
          clear hq
          have h109b := h109.here
          refine dload1 T 7 hS (by kernel_rfl) (by kernel_rfl) (by kernel_rfl) (by rfl) (by kernel_rfl) hH (by kernel_rfl) h109 h109b rfl (by kernel_rfl) ?_
          intro v110 a hv hS
          cases hv
          refine take T [8] [] [0, 1, 5, 25] hS (by kernel_rfl) (by kernel_rfl) (by kernel_rfl) hH (listed' := #[true, true, true, true, true, true, true, true, true]) (fuel := 0) (sy' := ⟨[(0, V (.slice a1 a_.length c1)), (1, V (.slice a2 b_.length c2)), (5, I i_103), (25, B ((gi a_ i_103) != (gi b_ i_103)))], []⟩) (by kernel_rfl) (by rfl) ?_
          intro a hS
          refine drawnDone (by kernel_rfl) ?_
          clear hD hH
          replace hS := hS.sel [0, 1, 5, 25] [] (sy' := ⟨[(0, V (.slice a1 a_.length c1)), (1, V (.slice a2 b_.length c2)), (5, I i_103), (25, B ((gi a_ i_103) != (gi b_ i_103)))], []⟩) (by kernel_rfl)
          refine wcond hS (b := ((gi a_ i_103) != (gi b_ i_103))) (by kernel_rfl) (fun hb => ?_) (fun hb => ?_)
          · replace hm := hm.1 hb
            refine regP T hS (sp := []) (ks := [4]) (bs := []) (sy' := ⟨[(4, B false)], []⟩) (by kernel_rfl) ?_
            intro a hS
            refine wret ?_
            exact fin T hS hO (fun c => c) rfl (r := [.bool false]) (by kernel_rfl) (fun χ' hM hC => ⟨false, hm, rfl⟩)
          · replace hm := hm.2 hb
            refine wskip ?_
            refine region (endP T hS (sp := []) (ks := [0, 1, 5]) (bs := []) (sy' := ⟨[(0, V (.slice a1 a_.length c1)), (1, V (.slice a2 b_.length c2)), (5, I (IntKind.i64.wrap (i_103 + 1)))], []⟩) (by kernel_rfl) ?_)
            intro a hS
            exact ⟨IntKind.i64.wrap (i_103 + 1), ⟨ρ, _, hm.1, hS.sel [0, 1, 5] [] (by kernel_rfl), hO, h101, h102⟩, hm.2⟩
        · replace hm := hm.2 hb
          refine wexit (by rfl) ?_
          exact ⟨ρ, _, hm, hS.sel [] [] (by kernel_rfl), hO⟩
    · rintro a w114 ⟨ρ, χ113, hm, hS, hO⟩
      unfold VC34_J1 at hm
      refine regP T hS (sp := []) (ks := [4]) (bs := []) (sy' := ⟨[(4, B true)], []⟩) (by kernel_rfl) ?_
      intro a hS
      refine wret ?_
      exact fin T hS hO (fun c => c) rfl (r := [.bool true]) (by kernel_rfl) (fun χ' hM hC => ⟨true, hm, rfl⟩)
theorem C34 (v : ∀ (a_ : List Int) (b_ : List Int), VC34 a_ b_ (fun r => r = ref01_SameInts a_ b_)) : S34 := by
  intro w χ a_ b_ a1 c1 a2 c2   h1 h2
  refine (W34 w χ a_ b_ a1 c1 a2 c2   _ (v a_ b_) h1 h2).mono ?_
  rintro _ _ _ _ ⟨r, rfl, h⟩
  exact h
def S35 : Prop := ∀ (w : World) (χ : Nat → Nat) (a_ : List Bool) (b_ : List Bool) (a1 : Option Addr) (c1 : Nat) (a2 : Option Addr) (c2 : Nat), RS tBool w χ a1 a_ c1 → RS tBool w χ a2 b_ c2 → Ret Try.prog 35 #[.slice a1 a_.length c1, .slice a2 b_.length c2] xnone w χ (fun w χ' v => v = .bool (ref03_SameBools a_ b_))
theorem hb35 : hasBody Try.prog 35 = true := by kernel_rfl
/-- replevin/replevinref03.SameBools -/
theorem W35 (w0 : World) (χ0 : Nat → Nat) (a_ : List Bool) (b_ : List Bool) (a1 : Option Addr) (c1 : Nat) (a2 : Option Addr) (c2 : Nat) (Q : Bool → Prop) (hm : VC35 a_ b_ Q) (h1 : RS tBool w0 χ0 a1 a_ c1) (h2 : RS tBool w0 χ0 a2 b_ c2) :
    Ret Try.prog 35 #[.slice a1 a_.length c1, .slice a2 b_.length c2] xnone w0 χ0 (fun w χ' v => ∃ r, Q r ∧ v = .bool r) := by
  unfold VC35 at hm
  replace hm := hm (h1.sm (by kernel_rfl))
  replace hm := hm (h2.sm (by kernel_rfl))
  refine enter Try.func35 rfl (vals := [.slice a1 a_.length c1, .slice a2 b_.length c2]) (by kernel_rfl) ?_
  intro ρ a hS hO hM
  replace h1 := h1.m0 hM
  replace h2 := h2.m0 hM
  clear hM
  refine regP T hS (sp := []) (ks := [0, 1]) (bs := []) (sy' := ⟨[(0, V (.slice a1 a_.length c1)), (1, V (.slice a2 b_.length c2))], []⟩) (by kernel_rfl) ?_
  intro a hS
  refine wseq ?_
  refine regP T hS (sp := []) (ks := [0, 1, 10]) (bs := []) (sy' := ⟨[(0, V (.slice a1 a_.length c1)), (1, V (.slice a2 b_.length c2)), (10, B (((a_.length : Nat) : Int) != ((b_.length : Nat) : Int)))], []⟩) (by kernel_rfl) ?_
  intro a hS
  refine wcond hS (b := (((a_.length : Nat) : Int) != ((b_.length : Nat) : Int))) (by kernel_rfl) (fun hb => ?_) (fun hb => ?_)
  · replace hm := hm.1 hb
    refine regP T hS (sp := []) (ks := [4]) (bs := []) (sy' := ⟨[(4, B false)], []⟩) (by kernel_rfl) ?_
    intro a hS
    refine wret ?_
    exact fin T hS hO (fun c => c) rfl (r := [.bool false]) (by kernel_rfl) (fun χ' hM hC => ⟨false, hm, rfl⟩)
  · replace hm := hm.2 hb
    refine wskip ?_
    refine wcut (fun a w => ∃ (ρ : Nat → Nat) (χ : Nat → Nat), VC35_J1 Q ∧ St Try.f35.ntmps ⟨[], []⟩ ρ a w χ ∧ Old w0 χ0 w χ) ?_ ?_
    · refine regP T hS (sp := []) (ks := [0, 1, 5]) (bs := []) (sy' := ⟨[(0, V (.slice a1 a_.length c1)), (1, V (.slice a2 b_.length c2)), (5, I 0)], []⟩) (by kernel_rfl) ?_
      intro a hS
      refine wblock ?_
      obtain ⟨I1, μ1, hm0, hm⟩ := hm
      refine wloop (σ := Int) (fun s a w => ∃ (ρ : Nat → Nat) (χ : Nat → Nat), I1 s ∧ St Try.f35.ntmps ⟨[(0, V (.slice a1 a_.length c1)), (1, V (.slice a2 b_.length c2)), (5, I s)], []⟩ ρ a w χ ∧ Old w0 χ0 w χ ∧ RS tBool w χ a1 a_ c1 ∧ RS tBool w χ a2 b_ c2) (fun s => μ1 s) (0) ?_ ?_
      · exact ⟨ρ, _, hm0, hS.sel [0, 1, 5] [] (by kernel_rfl), hO, h1, h2⟩
      · rintro i_103 a w112 ⟨ρ, χ111, hI, hS, hO, h101, h102⟩
        replace hm := hm i_103 hI
        clear hI hm0
        refine wseq ?_
        refine regP T hS (sp := []) (ks := [0, 1, 5, 14]) (bs := []) (sy' := ⟨[(0, V (.slice a1 a_.length c1)), (1, V (.slice a2 b_.length c2)), (5, I i_103), (14, B (decide (i_103 < ((a_.length : Nat) : Int))))], []⟩) (by kernel_rfl) ?_
        intro a hS
        refine wcond hS (b := decide (i_103 < ((a_.length : Nat) : Int))) (by kernel_rfl) (fun hb => ?_) (fun hb => ?_)
        · replace hm := hm.1 hb
          refine wskip ?_
          refine wseq ?_
          refine wblock ?_
          refine drawnS [] mixed hS ?_
          intro w104 hS hE hD hH
          replace hO := hO.mv hE rfl rfl
          replace h101 := h101.mv hE rfl
          replace h102 := h102.mv hE rfl
          clear hE
          refine take T [0, 1, 4, 5] [] [0, 1, 5, 17, 18, 21, 22] hS (by kernel_rfl) (by kernel_rfl) (by kernel_rfl) hH (listed' := #[true, true, false, false, true, true, false, false, false]) (fuel := 5) (sy' := ⟨[(0, V (.slice a1 a_.length c1)), (1, V (.slice a2 b_.length c2)), (5, I i_103), (17, V (.slice a1 a_.length c1)), (18, I i_103), (21, V (.slice a2 b_.length c2)), (22, I i_103)], []⟩) (by kernel_rfl) (by rfl) ?_
          intro a hS
          obtain ⟨hq, hm⟩ := hm
          refine dindex (e := 4) (k := .i64) T 2 hS (by kernel_rfl) (by kernel_rfl) (by kernel_rfl) (by rfl) (by kernel_rfl) hH (by kernel_rfl) (by kernel_rfl) h101 (by kernel_rfl) (by kernel_rfl) hq.1 hq.2 ?_
          intro A105 a h106 hS
          clear hq
          have h106b := h106.here
          refine dload1 T 3 hS (by kernel_rfl) (by kernel_rfl) (by kernel_rfl) (by rfl) (by kernel_rfl) hH (by kernel_rfl) h106 h106b rfl (by kernel_rfl) ?_
          intro v107 a hv hS
          cases hv
          obtain ⟨hq, hm⟩ := hm
          refine dindex (e := 4) (k := .i64) T 6 hS (by kernel_rfl) (by kernel_rfl) (by kernel_rfl) (by rfl) (by kernel_rfl) hH (by kernel_rfl) (by kernel_rfl) h102 (by kernel_rfl) (by kernel_rfl) hq.1 hq.2 ?_
          intro A108 a h109 hS
          clear hq
          have h109b := h109.here
          refine dload1 T 7 hS (by kernel_rfl) (by kernel_rfl) (by kernel_rfl) (by rfl) (by kernel_rfl) hH (by kernel_rfl) h109 h109b rfl (by kernel_rfl) ?_
          intro v110 a hv hS
          cases hv
          refine take T [8] [] [0, 1, 5, 25] hS (by kernel_rfl) (by kernel_rfl) (by kernel_rfl) hH (listed' := #[true, true, true, true, true, true, true, true, true]) (fuel := 0) (sy' := ⟨[(0, V (.slice a1 a_.length c1)), (1, V (.slice a2 b_.length c2)), (5, I i_103), (25, B ((gi a_ i_103) != (gi b_ i_103)))], []⟩) (by kernel_rfl) (by rfl) ?_
          intro a hS
          refine drawnDone (by kernel_rfl) ?_
          clear hD hH
          replace hS := hS.sel [0, 1, 5, 25] [] (sy' := ⟨[(0, V (.slice a1 a_.length c1)), (1, V (.slice a2 b_.length c2)), (5, I i_103), (25, B ((gi a_ i_103) != (gi b_ i_103)))], []⟩) (by kernel_rfl)
          refine wcond hS (b := ((gi a_ i_103) != (gi b_ i_103))) (by kernel_rfl) (fun hb => ?_) (fun hb => ?_)
          · replace hm := hm.1 hb
            refine regP T hS (sp := []) (ks := [4]) (bs := []) (sy' := ⟨[(4, B false)], []⟩) (by kernel_rfl) ?_
            intro a hS
            refine wret ?_
            exact fin T hS hO (fun c => c) rfl (r := [.bool false]) (by kernel_rfl) (fun χ' hM hC => ⟨false, hm, rfl⟩)
          · replace hm := hm.2 hb
            refine wskip ?_
            refine region (endP T hS (sp := []) (ks := [0, 1, 5]) (bs := []) (sy' := ⟨[(0, V (.slice a1 a_.length c1)), (1, V (.slice a2 b_.length c2)), (5, I (IntKind.i64.wrap (i_103 + 1)))], []⟩) (by kernel_rfl) ?_)
            intro a hS
            exact ⟨IntKind.i64.wrap (i_103 + 1), ⟨ρ, _, hm.1, hS.sel [0, 1, 5] [] (by kernel_rfl), hO, h101, h102⟩, hm.2⟩
        · replace hm := hm.2 hb
          refine wexit (by rfl) ?_
          exact ⟨ρ, _, hm, hS.sel [] [] (by kernel_rfl), hO⟩
    · rintro a w114 ⟨ρ, χ113, hm, hS, hO⟩
      unfold VC35_J1 at hm
      refine regP T hS (sp := []) (ks := [4]) (bs := []) (sy' := ⟨[(4, B true)], []⟩) (by kernel_rfl) ?_
      intro a hS
      refine wret ?_
      exact fin T hS hO (fun c => c) rfl (r := [.bool true]) (by kernel_rfl) (fun χ' hM hC => ⟨true, hm, rfl⟩)
theorem C35 (v : ∀ (a_ : List Bool) (b_ : List Bool), VC35 a_ b_ (fun r => r = ref03_SameBools a_ b_)) : S35 := by
  intro w χ a_ b_ a1 c1 a2 c2   h1 h2
  refine (W35 w χ a_ b_ a1 c1 a2 c2   _ (v a_ b_) h1 h2).mono ?_
  rintro _ _ _ _ ⟨r, rfl, h⟩
  exact h
def S31 : Prop := ∀ (w : World) (χ : Nat → Nat) (a_ : List (List Int)) (b_ : List (List Int)) (a1 : Option Addr) (c1 : Nat) (a2 : Option Addr) (c2 : Nat), RS (tSlice tI) w χ a1 a_ c1 → RS (tSlice tI) w χ a2 b_ c2 → Ret Try.prog 31 #[.slice a1 a_.length c1, .slice a2 b_.length c2] xnone w χ (fun w χ' v => v = .bool (ref04_SameRows a_ b_))
theorem hb31 : hasBody Try.prog 31 = true := by kernel_rfl
/-- replevin/replevinref04.SameRows -/
theorem W31 (k34 : S34) (w0 : World) (χ0 : Nat → Nat) (a_ : List (List Int)) (b_ : List (List Int)) (a1 : Option Addr) (c1 : Nat) (a2 : Option Addr) (c2 : Nat) (Q : Bool → Prop) (hm : VC31 a_ b_ Q) (h1 : RS (tSlice tI) w0 χ0 a1 a_ c1) (h2 : RS (tSlice tI) w0 χ0 a2 b_ c2) :
    Ret Try.prog 31 #[.slice a1 a_.length c1, .slice a2 b_.length c2] xnone w0 χ0 (fun w χ' v => ∃ r, Q r ∧ v = .bool r) := by
  unfold VC31 at hm
  replace hm := hm (h1.sm (by kernel_rfl))
  replace hm := hm (h2.sm (by kernel_rfl))
  refine enter Try.func31 rfl (vals := [.slice a1 a_.length c1, .slice a2 b_.length c2]) (by kernel_rfl) ?_
  intro ρ a hS hO hM
  replace h1 := h1.m0 hM
  replace h2 := h2.m0 hM
  clear hM
  refine regP T hS (sp := []) (ks := [0, 1]) (bs := []) (sy' := ⟨[(0, V (.slice a1 a_.length c1)), (1, V (.slice a2 b_.length c2))], []⟩) (by kernel_rfl) ?_
  intro a hS
  refine wseq ?_
  refine regP T hS (sp := []) (ks := [0, 1, 10]) (bs := []) (sy' := ⟨[(0, V (.slice a1 a_.length c1)), (1, V (.slice a2 b_.length c2)), (10, B (((a_.length : Nat) : Int) != ((b_.length : Nat) : Int)))], []⟩) (by kernel_rfl) ?_
  intro a hS
  refine wcond hS (b := (((a_.length : Nat) : Int) != ((b_.length : Nat) : Int))) (by kernel_rfl) (fun hb => ?_) (fun hb => ?_)
  · replace hm := hm.1 hb
    refine regP T hS (sp := []) (ks := [4]) (bs := []) (sy' := ⟨[(4, B false)], []⟩) (by kernel_rfl) ?_
    intro a hS
    refine wret ?_
    exact fin T hS hO (fun c => c) rfl (r := [.bool false]) (by kernel_rfl) (fun χ' hM hC => ⟨false, hm, rfl⟩)
  · replace hm := hm.2 hb
    refine wskip ?_
    refine wcut (fun a w => ∃ (ρ : Nat → Nat) (χ : Nat → Nat), VC31_J1 Q ∧ St Try.f31.ntmps ⟨[], []⟩ ρ a w χ ∧ Old w0 χ0 w χ) ?_ ?_
    · refine regP T hS (sp := []) (ks := [0, 1, 5]) (bs := []) (sy' := ⟨[(0, V (.slice a1 a_.length c1)), (1, V (.slice a2 b_.length c2)), (5, I 0)], []⟩) (by kernel_rfl) ?_
      intro a hS
      refine wblock ?_
      obtain ⟨I1, μ1, hm0, hm⟩ := hm
      refine wloop (σ := Int) (fun s a w => ∃ (ρ : Nat → Nat) (χ : Nat → Nat), I1 s ∧ St Try.f31.ntmps ⟨[(0, V (.slice a1 a_.length c1)), (1, V (.slice a2 b_.length c2)), (5, I s)], []⟩ ρ a w χ ∧ Old w0 χ0 w χ ∧ RS (tSlice tI) w χ a1 a_ c1 ∧ RS (tSlice tI) w χ a2 b_ c2) (fun s => μ1 s) (0) ?_ ?_
      · exact ⟨ρ, _, hm0, hS.sel [0, 1, 5] [] (by kernel_rfl), hO, h1, h2⟩
      · rintro i_103 a w122 ⟨ρ, χ121, hI, hS, hO, h101, h102⟩
        replace hm := hm i_103 hI
        clear hI hm0
        refine wseq ?_
        refine regP T hS (sp := []) (ks := [0, 1, 5, 14]) (bs := []) (sy' := ⟨[(0, V (.slice a1 a_.length c1)), (1, V (.slice a2 b_.length c2)), (5, I i_103), (14, B (decide (i_103 < ((a_.length : Nat) : Int))))], []⟩) (by kernel_rfl) ?_
        intro a hS
        refine wcond hS (b := decide (i_103 < ((a_.length : Nat) : Int))) (by kernel_rfl) (fun hb => ?_) (fun hb => ?_)
        · replace hm := hm.1 hb
          refine wskip ?_
          refine wseq ?_
          refine wblock ?_
          refine drawnS [] mixed hS ?_
          intro w104 hS hE hD hH
          replace hO := hO.mv hE rfl rfl
          replace h101 := h101.mv hE rfl
          replace h102 := h102.mv hE rfl
          clear hE
          refine take T [0, 1, 4, 5] [] [0, 1, 5, 17, 18, 21, 22] hS (by kernel_rfl) (by kernel_rfl) (by kernel_rfl) hH (listed' := #[true, true, false, false, true, true, false, false, false, false]) (fuel := 6) (sy' := ⟨[(0, V (.slice a1 a_.length c1)), (1, V (.slice a2 b_.length c2)), (5, I i_103), (17, V (.slice a1 a_.length c1)), (18, I i_103), (21, V (.slice a2 b_.length c2)), (22, I i_103)], []⟩) (by kernel_rfl) (by rfl) ?_
          intro a hS
          obtain ⟨hq, hm⟩ := hm
          refine dindex (e := 42) (k := .i64) T 2 hS (by kernel_rfl) (by kernel_rfl) (by kernel_rfl) (by rfl) (by kernel_rfl) hH (by kernel_rfl) (by kernel_rfl) h101 (by kernel_rfl) (by kernel_rfl) hq.1 hq.2 ?_
          intro A105 a h106 hS
          clear hq
          have h106b := h106.here
          refine dload1 T 3 hS (by kernel_rfl) (by kernel_rfl) (by kernel_rfl) (by rfl) (by kernel_rfl) hH (by kernel_rfl) h106 h106b rfl (by kernel_rfl) ?_
          intro v107 a hv hS
          obtain ⟨a108, c109, hv, h110⟩ := hv
          cases hv
          replace hm := hm (h110.sm (by kernel_rfl))
          obtain ⟨hq, hm⟩ := hm
          refine dindex (e := 42) (k := .i64) T 6 hS (by kernel_rfl) (by kernel_rfl) (by kernel_rfl) (by rfl) (by kernel_rfl) hH (by kernel_rfl) (by kernel_rfl) h102 (by kernel_rfl) (by kernel_rfl) hq.1 hq.2 ?_
          intro A111 a h112 hS
          clear hq
          have h112b := h112.here
          refine dload1 T 7 hS (by kernel_rfl) (by kernel_rfl) (by kernel_rfl) (by rfl) (by kernel_rfl) hH (by kernel_rfl) h112 h112b rfl (by kernel_rfl) ?_
          intro v113 a hv hS
          obtain ⟨a114, c115, hv, h116⟩ := hv
          cases hv
          replace hm := hm (h116.sm (by kernel_rfl))
          refine only 8 (by kernel_rfl) (by rfl) (call hS (by kernel_rfl) (by kernel_rfl) hb34 (by kernel_rfl) (fun _ _ => rfl) (k34 _ _ (gi a_ i_103) (gi b_ i_103) a108 c109 a114 c115 h110 h116) ?_)
          intro v117 a w118 χ119 hE hp hS
          replace hO := hO.mv hE rfl rfl
          replace hD := hD.ev hE rfl
          replace h101 := h101.mv hE rfl
          replace h102 := h102.mv hE rfl
          replace h106 := h106.mv hE rfl
          replace h110 := h110.mv hE rfl
          replace h112 := h112.mv hE rfl
          replace h116 := h116.mv hE rfl
          clear hE
          obtain ⟨r120, hr⟩ : ∃ r, ref01_SameInts (gi a_ i_103) (gi b_ i_103) = r := ⟨_, rfl⟩
          replace hm := hm r120 hr
          rw [hr] at hp
          clear hr
          subst hp
          refine andH (Hold.of hS (bks := []) (by kernel_rfl) hD) ?_
          intro hH
          refine take T [9] [] [0, 1, 5, 26] hS (by kernel_rfl) (by kernel_rfl) (by kernel_rfl) hH (listed' := #[true, true, true, true, true, true, true, true, true, true]) (fuel := 0) (sy' := ⟨[(0, V (.slice a1 a_.length c1)), (1, V (.slice a2 b_.length c2)), (5, I i_103), (26, B (!r120))], []⟩) (by kernel_rfl) (by rfl) ?_
          intro a hS
          refine drawnDone (by kernel_rfl) ?_
          clear hD hH
          replace hS := hS.sel [0, 1, 5, 26] [] (sy' := ⟨[(0, V (.slice a1 a_.length c1)), (1, V (.slice a2 b_.length c2)), (5, I i_103), (26, B (!r120))], []⟩) (by kernel_rfl)
          refine wcond hS (b := (!r120)) (by kernel_rfl) (fun hb => ?_) (fun hb => ?_)
          · replace hm := hm.1 hb
            refine regP T hS (sp := []) (ks := [4]) (bs := []) (sy' := ⟨[(4, B false)], []⟩) (by kernel_rfl) ?_
            intro a hS
            refine wret ?_
            exact fin T hS hO (fun c => c) rfl (r := [.bool false]) (by kernel_rfl) (fun χ' hM hC => ⟨false, hm, rfl⟩)
          · replace hm := hm.2 hb
            refine wskip ?_
            refine region (endP T hS (sp := []) (ks := [0, 1, 5]) (bs := []) (sy' := ⟨[(0, V (.slice a1 a_.length c1)), (1, V (.slice a2 b_.length c2)), (5, I (IntKind.i64.wrap (i_103 + 1)))], []⟩) (by kernel_rfl) ?_)
            intro a hS
            exact ⟨IntKind.i64.wrap (i_103 + 1), ⟨ρ, _, hm.1, hS.sel [0, 1, 5] [] (by kernel_rfl), hO, h101, h102⟩, hm.2⟩
        · replace hm := hm.2 hb
          refine wexit (by rfl) ?_
          exact ⟨ρ, _, hm, hS.sel [] [] (by kernel_rfl), hO⟩
    · rintro a w124 ⟨ρ, χ123, hm, hS, hO⟩
      unfold VC31_J1 at hm
      refine regP T hS (sp := []) (ks := [4]) (bs := []) (sy' := ⟨[(4, B true)], []⟩) (by kernel_rfl) ?_
      intro a hS
      refine wret ?_
      exact fin T hS hO (fun c => c) rfl (r := [.bool true]) (by kernel_rfl) (fun χ' hM hC => ⟨true, hm, rfl⟩)
theorem C31 (k34 : S34) (v : ∀ (a_ : List (List Int)) (b_ : List (List Int)), VC31 a_ b_ (fun r => r = ref04_SameRows a_ b_)) : S31 := by
  intro w χ a_ b_ a1 c1 a2 c2   h1 h2
  refine (W31 k34 w χ a_ b_ a1 c1 a2 c2   _ (v a_ b_) h1 h2).mono ?_
  rintro _ _ _ _ ⟨r, rfl, h⟩
  exact h
def S79 : Prop := ∀ (w : World) (χ : Nat → Nat) (l_ : Int), Ret Try.prog 79 #[.int .i64 l_] xnone w χ (fun w χ' v => v = .tuple #[.int .i64 ((ref01_Split l_).1), .bool ((ref01_Split l_).2)])
theorem hb79 : hasBody Try.prog 79 = true := by kernel_rfl
/-- replevin/replevinref01.Split -/
theorem W79 (w0 : World) (χ0 : Nat → Nat) (l_ : Int) (Q : Int × Bool → Prop) (hm : VC79 l_ Q) :
    Ret Try.prog 79 #[.int .i64 l_] xnone w0 χ0 (fun w χ' v => ∃ r, Q r ∧ v = .tuple #[.int .i64 r.1, .bool r.2]) := by
  unfold VC79 at hm
  refine enter Try.func79 rfl (vals := [.int .i64 l_]) (by kernel_rfl) ?_
  intro ρ a hS hO hM
  clear hM
  refine regP T hS (sp := []) (ks := [0]) (bs := []) (sy' := ⟨[(0, I l_)], []⟩) (by kernel_rfl) ?_
  intro a hS
  refine wseq ?_
  refine regP T hS (sp := [6]) (ks := [0, 9]) (bs := []) (sy' := ⟨[(0, I l_), (9, B ((decide (l_ > 0)) && (decide (l_ ≤ 100000))))], []⟩) (by kernel_rfl) ?_
  intro a hS
  refine wcond hS (b := ((decide (l_ > 0)) && (decide (l_ ≤ 100000)))) (by kernel_rfl) (fun hb => ?_) (fun hb => ?_)
  · replace hm := hm.1 hb
    refine regP T hS (sp := []) (ks := [2, 3]) (bs := []) (sy' := ⟨[(2, I l_), (3, B true)], []⟩) (by kernel_rfl) ?_
    intro a hS
    refine wret ?_
    exact fin T hS hO (fun c => c) rfl (r := [.int .i64 l_, .bool true]) (by kernel_rfl) (fun χ' hM hC => ⟨(l_, true), hm, rfl⟩)
  · replace hm := hm.2 hb
    refine wskip ?_
    refine wseq ?_
    refine regP T hS (sp := [13]) (ks := [0, 16]) (bs := []) (sy' := ⟨[(0, I l_), (16, B ((decide (l_ < 0)) && (decide (l_ ≥ (-100000)))))], []⟩) (by kernel_rfl) ?_
    intro a hS
    refine wcond hS (b := ((decide (l_ < 0)) && (decide (l_ ≥ (-100000))))) (by kernel_rfl) (fun hb => ?_) (fun hb => ?_)
    · replace hm := hm.1 hb
      refine regP T hS (sp := []) (ks := [2, 3]) (bs := []) (sy' := ⟨[(2, I (IntKind.i64.wrap (0 - l_))), (3, B false)], []⟩) (by kernel_rfl) ?_
      intro a hS
      refine wret ?_
      exact fin T hS hO (fun c => c) rfl (r := [.int .i64 (IntKind.i64.wrap (0 - l_)), .bool false]) (by kernel_rfl) (fun χ' hM hC => ⟨(IntKind.i64.wrap (0 - l_), false), hm, rfl⟩)
    · replace hm := hm.2 hb
      refine wskip ?_
      refine regP T hS (sp := []) (ks := [2, 3]) (bs := []) (sy' := ⟨[(2, I 0), (3, B false)], []⟩) (by kernel_rfl) ?_
      intro a hS
      refine wret ?_
      exact fin T hS hO (fun c => c) rfl (r := [.int .i64 0, .bool false]) (by kernel_rfl) (fun χ' hM hC => ⟨(0, false), hm, rfl⟩)
theorem C79 (v : ∀ (l_ : Int), VC79 l_ (fun r => r = ref01_Split l_)) : S79 := by
  intro w χ l_    
  refine (W79 w χ l_    _ (v l_)).mono ?_
  rintro _ _ _ _ ⟨r, rfl, h⟩
  exact h
def S62 : Prop := ∀ (w : World) (χ : Nat → Nat) (c_ : List Int) (m_ : List Bool) (a1 : Option Addr) (c1 : Nat) (a2 : Option Addr) (c2 : Nat), RS tI w χ a1 c_ c1 → RS tBool w χ a2 m_ c2 → Ret Try.prog 62 #[.slice a1 c_.length c1, .slice a2 m_.length c2] xnone w χ (fun w χ' v => v = .bool (ref02_Holds c_ m_))
theorem hb62 : hasBody Try.prog 62 = true := by kernel_rfl
/-- replevin/replevinref02.Holds -/
theorem W62 (k79 : S79) (w0 : World) (χ0 : Nat → Nat) (c_ : List Int) (m_ : List Bool) (a1 : Option Addr) (c1 : Nat) (a2 : Option Addr) (c2 : Nat) (Q : Bool → Prop) (hm : VC62 c_ m_ Q) (h1 : RS tI w0 χ0 a1 c_ c1) (h2 : RS tBool w0 χ0 a2 m_ c2) :
    Ret Try.prog 62 #[.slice a1 c_.length c1, .slice a2 m_.length c2] xnone w0 χ0 (fun w χ' v => ∃ r, Q r ∧ v = .bool r) := by
  unfold VC62 at hm
  replace hm := hm (h1.sm (by kernel_rfl))
  replace hm := hm (h2.sm (by kernel_rfl))
  refine enter Try.func62 rfl (vals := [.slice a1 c_.length c1, .slice a2 m_.length c2]) (by kernel_rfl) ?_
  intro ρ a hS hO hM
  replace h1 := h1.m0 hM
  replace h2 := h2.m0 hM
  clear hM
  refine regP T hS (sp := []) (ks := [0, 1]) (bs := []) (sy' := ⟨[(0, V (.slice a1 c_.length c1)), (1, V (.slice a2 m_.length c2))], []⟩) (by kernel_rfl) ?_
  intro a hS
  refine wcut (fun a w => ∃ (ρ : Nat → Nat) (χ : Nat → Nat), VC62_J1 Q ∧ St Try.f62.ntmps ⟨[], []⟩ ρ a w χ ∧ Old w0 χ0 w χ) ?_ ?_
  · refine regP T hS (sp := []) (ks := [0, 1, 5]) (bs := []) (sy' := ⟨[(0, V (.slice a1 c_.length c1)), (1, V (.slice a2 m_.length c2)), (5, I 0)], []⟩) (by kernel_rfl) ?_
    intro a hS
    refine wblock ?_
    obtain ⟨I1, μ1, hm0, hm⟩ := hm
    refine wloop (σ := Int) (fun s a w => ∃ (ρ : Nat → Nat) (χ : Nat → Nat), I1 s ∧ St Try.f62.ntmps ⟨[(0, V (.slice a1 c_.length c1)), (1, V (.slice a2 m_.length c2)), (5, I s)], []⟩ ρ a w χ ∧ Old w0 χ0 w χ ∧ RS tI w χ a1 c_ c1 ∧ RS tBool w χ a2 m_ c2) (fun s => μ1 s) (0) ?_ ?_
    · exact ⟨ρ, _, hm0, hS.sel [0, 1, 5] [] (by kernel_rfl), hO, h1, h2⟩
    · rintro i_103 a w124 ⟨ρ, χ123, hI, hS, hO, h101, h102⟩
      replace hm := hm i_103 hI
      clear hI hm0
      refine wseq ?_
      refine regP T hS (sp := []) (ks := [0, 1, 5, 12]) (bs := []) (sy' := ⟨[(0, V (.slice a1 c_.length c1)), (1, V (.slice a2 m_.length c2)), (5, I i_103), (12, B (decide (i_103 < ((c_.length : Nat) : Int))))], []⟩) (by kernel_rfl) ?_
      intro a hS
      refine wcond hS (b := decide (i_103 < ((c_.length : Nat) : Int))) (by kernel_rfl) (fun hb => ?_) (fun hb => ?_)
      · replace hm := hm.1 hb
        refine wskip ?_
        refine wcut (fun a w => ∃ (ρ : Nat → Nat) (χ : Nat → Nat), VC62_J2 I1 μ1 i_103 ∧ St Try.f62.ntmps ⟨[(0, V (.slice a1 c_.length c1)), (1, V (.slice a2 m_.length c2)), (5, I i_103)], []⟩ ρ a w χ ∧ Old w0 χ0 w χ ∧ RS tI w χ a1 c_ c1 ∧ RS tBool w χ a2 m_ c2) ?_ ?_
        · refine wblock ?_
          refine regO ?_
          refine opsP T hS 2 (sp := []) (ks := [0, 1, 5, 16, 17]) (bs := []) (sy' := ⟨[(0, V (.slice a1 c_.length c1)), (1, V (.slice a2 m_.length c2)), (5, I i_103), (16, V (.slice a1 c_.length c1)), (17, I i_103)], []⟩) (by kernel_rfl) ?_
          intro a hS
          obtain ⟨hq, hm⟩ := hm
          refine op1 (index (e := 3) (k := .i64) T hS (by kernel_rfl) (by kernel_rfl) (by kernel_rfl) (by kernel_rfl) h101 (by kernel_rfl) (by kernel_rfl) hq.1 hq.2 ?_)
          intro A106 a h107 hS
          clear hq
          refine op1 (load1 T hS (by kernel_rfl) (by kernel_rfl) (by kernel_rfl) h107 rfl (by kernel_rfl) ?_)
          intro v108 a hv hS
          cases hv
          refine op1 (call hS (by kernel_rfl) (by kernel_rfl) hb79 (by kernel_rfl) (fun _ _ => rfl) (k79 _ _ (gi c_ i_103)) ?_)
          intro v109 a w110 χ111 hE hp hS
          replace hO := hO.mv hE rfl rfl
          replace h101 := h101.mv hE rfl
          replace h102 := h102.mv hE rfl
          replace h107 := h107.mv hE rfl
          clear hE
          obtain ⟨r112, hr⟩ : ∃ r, ref01_Split (gi c_ i_103) = r := ⟨_, rfl⟩
          replace hm := hm r112 hr
          rw [hr] at hp
          clear hr
          subst hp
          refine endP T hS (sp := []) (ks := [0, 1, 5, 6, 7]) (bs := []) (sy' := ⟨[(0, V (.slice a1 c_.length c1)), (1, V (.slice a2 m_.length c2)), (5, I i_103), (6, I r112.1), (7, B r112.2)], []⟩) (by kernel_rfl) ?_
          intro a hS
          refine wseq ?_
          refine regP T hS (sp := []) (ks := [0, 1, 5, 6, 7, 24]) (bs := []) (sy' := ⟨[(0, V (.slice a1 c_.length c1)), (1, V (.slice a2 m_.length c2)), (5, I i_103), (6, I r112.1), (7, B r112.2), (24, B (r112.1 == 0))], []⟩) (by kernel_rfl) ?_
          intro a hS
          refine wcond hS (b := (r112.1 == 0)) (by kernel_rfl) (fun hb => ?_) (fun hb => ?_)
          · replace hm := hm.1 hb
            refine wexit (by rfl) ?_
            exact ⟨ρ, _, hm, hS.sel [0, 1, 5] [] (by kernel_rfl), hO, h101, h102⟩
          · replace hm := hm.2 hb
            refine wskip ?_
            refine wcut (fun a w => ∃ (ρ : Nat → Nat) (χ : Nat → Nat) (is_115 : Bool), VC62_J3 Q I1 μ1 i_103 r112 is_115 ∧ St Try.f62.ntmps ⟨[(0, V (.slice a1 c_.length c1)), (1, V (.slice a2 m_.length c2)), (5, I i_103), (7, B r112.2), (8, B is_115)], []⟩ ρ a w χ ∧ Old w0 χ0 w χ ∧ RS tI w χ a1 c_ c1 ∧ RS tBool w χ a2 m_ c2) ?_ ?_
            · refine region ?_
              refine opsP T hS 5 (sp := []) (ks := [0, 1, 5, 6, 7, 29]) (bs := []) (sy' := ⟨[(0, V (.slice a1 c_.length c1)), (1, V (.slice a2 m_.length c2)), (5, I i_103), (6, I r112.1), (7, B r112.2), (29, B (decide (r112.1 ≤ ((m_.length : Nat) : Int))))], []⟩) (by kernel_rfl) ?_
              intro a hS
              rcases Bool.eq_false_or_eq_true (decide (r112.1 ≤ ((m_.length : Nat) : Int))) with hb | hb
              · replace hS := hS.lit (t := 29) (by kernel_rfl) hb
                replace hm := hm.1 hb
                refine opsP T hS 3 (sp := []) (ks := [0, 1, 5, 7, 29, 30, 31, 32]) (bs := []) (sy' := ⟨[(0, V (.slice a1 c_.length c1)), (1, V (.slice a2 m_.length c2)), (5, I i_103), (7, B r112.2), (29, B true), (30, V (.slice a2 m_.length c2)), (31, I r112.1), (32, I (IntKind.i64.wrap (r112.1 - 1)))], []⟩) (by kernel_rfl) ?_
                intro a hS
                obtain ⟨hq, hm⟩ := hm
                refine op1 (index (e := 4) (k := .i64) T hS (by kernel_rfl) (by kernel_rfl) (by kernel_rfl) (by kernel_rfl) h102 (by kernel_rfl) (by kernel_rfl) hq.1 hq.2 ?_)
                intro A116 a h117 hS
                clear hq
                refine op1 (load1 T hS (by kernel_rfl) (by kernel_rfl) (by kernel_rfl) h117 rfl (by kernel_rfl) ?_)
                intro v118 a hv hS
                cases hv
                refine endP T hS (sp := []) (ks := [0, 1, 5, 7, 8, 30, 31, 32, 33, 34]) (bs := []) (sy' := ⟨[(0, V (.slice a1 c_.length c1)), (1, V (.slice a2 m_.length c2)), (5, I i_103), (7, B r112.2), (8, B (gi m_ (IntKind.i64.wrap (r112.1 - 1)))), (30, V (.slice a2 m_.length c2)), (31, I r112.1), (32, I (IntKind.i64.wrap (r112.1 - 1))), (33, V (.pointer (some A116))), (34, B (gi m_ (IntKind.i64.wrap (r112.1 - 1))))], []⟩) (by kernel_rfl) ?_
                intro a hS
                exact ⟨ρ, _, gi m_ (IntKind.i64.wrap (r112.1 - 1)), hm, hS.sel [0, 1, 5, 7, 8] [] (by kernel_rfl), hO, h101, h102⟩
              · replace hS := hS.lit (t := 29) (by kernel_rfl) hb
                replace hm := hm.2 hb
                refine endP T hS (sp := []) (ks := [0, 1, 5, 7, 8]) (bs := []) (sy' := ⟨[(0, V (.slice a1 c_.length c1)), (1, V (.slice a2 m_.length c2)), (5, I i_103), (7, B r112.2), (8, B false)], []⟩) (by kernel_rfl) ?_
                intro a hS
                exact ⟨ρ, _, false, hm, hS.sel [0, 1, 5, 7, 8] [] (by kernel_rfl), hO, h101, h102⟩
            · rintro a w120 ⟨ρ, χ119, is_115, hm, hS, hO, h113, h114⟩
              unfold VC62_J3 at hm
              refine regP T hS (sp := []) (ks := [0, 1, 5, 38]) (bs := []) (sy' := ⟨[(0, V (.slice a1 c_.length c1)), (1, V (.slice a2 m_.length c2)), (5, I i_103), (38, B (is_115 == r112.2))], []⟩) (by kernel_rfl) ?_
              intro a hS
              refine wcond hS (b := (is_115 == r112.2)) (by kernel_rfl) (fun hb => ?_) (fun hb => ?_)
              · replace hm := hm.1 hb
                refine regP T hS (sp := []) (ks := [4]) (bs := []) (sy' := ⟨[(4, B true)], []⟩) (by kernel_rfl) ?_
                intro a hS
                refine wret ?_
                exact fin T hS hO (fun c => c) rfl (r := [.bool true]) (by kernel_rfl) (fun χ' hM hC => ⟨true, hm, rfl⟩)
              · replace hm := hm.2 hb
                refine wskip ?_
                exact ⟨ρ, _, hm, hS.sel [0, 1, 5] [] (by kernel_rfl), hO, h113, h114⟩
        · rintro a w122 ⟨ρ, χ121, hm, hS, hO, h104, h105⟩
          unfold VC62_J2 at hm
          refine region (endP T hS (sp := []) (ks := [0, 1, 5]) (bs := []) (sy' := ⟨[(0, V (.slice a1 c_.length c1)), (1, V (.slice a2 m_.length c2)), (5, I (IntKind.i64.wrap (i_103 + 1)))], []⟩) (by kernel_rfl) ?_)
          intro a hS
          exact ⟨IntKind.i64.wrap (i_103 + 1), ⟨ρ, _, hm.1, hS.sel [0, 1, 5] [] (by kernel_rfl), hO, h104, h105⟩, hm.2⟩
      · replace hm := hm.2 hb
        refine wexit (by rfl) ?_
        exact ⟨ρ, _, hm, hS.sel [] [] (by kernel_rfl), hO⟩
  · rintro a w126 ⟨ρ, χ125, hm, hS, hO⟩
    unfold VC62_J1 at hm
    refine regP T hS (sp := []) (ks := [4]) (bs := []) (sy' := ⟨[(4, B false)], []⟩) (by kernel_rfl) ?_
    intro a hS
    refine wret ?_
    exact fin T hS hO (fun c => c) rfl (r := [.bool false]) (by kernel_rfl) (fun χ' hM hC => ⟨false, hm, rfl⟩)
theorem C62 (k79 : S79) (v : ∀ (c_ : List Int) (m_ : List Bool), VC62 c_ m_ (fun r => r = ref02_Holds c_ m_)) : S62 := by
  intro w χ c_ m_ a1 c1 a2 c2   h1 h2
  refine (W62 k79 w χ c_ m_ a1 c1 a2 c2   _ (v c_ m_) h1 h2).mono ?_
  rintro _ _ _ _ ⟨r, rfl, h⟩
  exact h
def S36 : Prop := ∀ (w : World) (χ : Nat → Nat) (f_ : Api_Formula) (m_ : List Bool) (a1 : Option Addr) (c1 : Nat) (a2 : Option Addr) (c2 : Nat), RS (tSlice tI) w χ a1 f_.Clauses c1 → RS tBool w χ a2 m_ c2 → Ret Try.prog 36 #[.agg #[.int .i64 f_.Vars, .slice a1 f_.Clauses.length c1], .slice a2 m_.length c2] xnone w χ (fun w χ' v => v = .int .i64 (ref04_First f_ m_))
theorem hb36 : hasBody Try.prog 36 = true := by kernel_rfl
/-- replevin/replevinref04.First -/
theorem W36 (k62 : S62) (w0 : World) (χ0 : Nat → Nat) (f_ : Api_Formula) (m_ : List Bool) (a1 : Option Addr) (c1 : Nat) (a2 : Option Addr) (c2 : Nat) (Q : Int → Prop) (hm : VC36 f_ m_ Q) (h1 : RS (tSlice tI) w0 χ0 a1 f_.Clauses c1) (h2 : RS tBool w0 χ0 a2 m_ c2) :
    Ret Try.prog 36 #[.agg #[.int .i64 f_.Vars, .slice a1 f_.Clauses.length c1], .slice a2 m_.length c2] xnone w0 χ0 (fun w χ' v => ∃ r, Q r ∧ v = .int .i64 r) := by
  unfold VC36 at hm
  replace hm := hm (h1.sm (by kernel_rfl))
  replace hm := hm (h2.sm (by kernel_rfl))
  refine enter Try.func36 rfl (vals := [.agg #[.int .i64 f_.Vars, .slice a1 f_.Clauses.length c1], .slice a2 m_.length c2]) (by kernel_rfl) ?_
  intro ρ a hS hO hM
  replace h1 := h1.m0 hM
  replace h2 := h2.m0 hM
  clear hM
  refine regM T hS (sp := []) (ks := [1, 2]) (bs := [3]) (sy' := ⟨[(1, V (.slice a2 m_.length c2)), (2, Pt 3 0)], [(3, (58, [I f_.Vars, V (.slice a1 f_.Clauses.length c1)]))]⟩) (by kernel_rfl) ?_
  intro ρ a w118 χ119 hS hE hr
  replace hO := hO.mv hE rfl rfl
  replace h1 := h1.mv hE rfl
  replace h2 := h2.mv hE rfl
  clear hE hr
  refine wcut (fun a w => ∃ (ρ : Nat → Nat) (χ : Nat → Nat), VC36_J1 Q ∧ St Try.f36.ntmps ⟨[], []⟩ ρ a w χ ∧ Old w0 χ0 w χ) ?_ ?_
  · refine regP T hS (sp := []) (ks := [1, 2, 5]) (bs := [3]) (sy' := ⟨[(1, V (.slice a2 m_.length c2)), (2, Pt 3 0), (5, I 0)], [(3, (58, [I f_.Vars, V (.slice a1 f_.Clauses.length c1)]))]⟩) (by kernel_rfl) ?_
    intro a hS
    refine wblock ?_
    obtain ⟨I1, μ1, hm0, hm⟩ := hm
    refine wloop (σ := Int) (fun s a w => ∃ (ρ : Nat → Nat) (χ : Nat → Nat), I1 s ∧ St Try.f36.ntmps ⟨[(1, V (.slice a2 m_.length c2)), (2, Pt 3 0), (5, I s)], [(3, (58, [I f_.Vars, V (.slice a1 f_.Clauses.length c1)]))]⟩ ρ a w χ ∧ Old w0 χ0 w χ ∧ RS tBool w χ a2 m_ c2 ∧ RS (tSlice tI) w χ a1 f_.Clauses c1) (fun s => μ1 s) (0) ?_ ?_
    · exact ⟨ρ, _, hm0, hS.sel [1, 2, 5] [3] (by kernel_rfl), hO, h2, h1⟩
    · rintro i_102 a w115 ⟨ρ, χ114, hI, hS, hO, h101, h103⟩
      replace hm := hm i_102 hI
      clear hI hm0
      refine wseq ?_
      refine regP T hS (sp := []) (ks := [1, 2, 5, 10]) (bs := [3]) (sy' := ⟨[(1, V (.slice a2 m_.length c2)), (2, Pt 3 0), (5, I i_102), (10, B (decide (i_102 < ((f_.Clauses.length : Nat) : Int))))], [(3, (58, [I f_.Vars, V (.slice a1 f_.Clauses.length c1)]))]⟩) (by kernel_rfl) ?_
      intro a hS
      refine wcond hS (b := decide (i_102 < ((f_.Clauses.length : Nat) : Int))) (by kernel_rfl) (fun hb => ?_) (fun hb => ?_)
      · replace hm := hm.1 hb
        refine wskip ?_
        refine wseq ?_
        refine wblock ?_
        refine regO ?_
        refine opsP T hS 3 (sp := []) (ks := [1, 2, 5, 14, 15]) (bs := [3]) (sy' := ⟨[(1, V (.slice a2 m_.length c2)), (2, Pt 3 0), (5, I i_102), (14, V (.slice a1 f_.Clauses.length c1)), (15, I i_102)], [(3, (58, [I f_.Vars, V (.slice a1 f_.Clauses.length c1)]))]⟩) (by kernel_rfl) ?_
        intro a hS
        obtain ⟨hq, hm⟩ := hm
        refine op1 (index (e := 42) (k := .i64) T hS (by kernel_rfl) (by kernel_rfl) (by kernel_rfl) (by kernel_rfl) h103 (by kernel_rfl) (by kernel_rfl) hq.1 hq.2 ?_)
        intro A104 a h105 hS
        clear hq
        refine op1 (load1 T hS (by kernel_rfl) (by kernel_rfl) (by kernel_rfl) h105 rfl (by kernel_rfl) ?_)
        intro v106 a hv hS
        obtain ⟨a107, c108, hv, h109⟩ := hv
        cases hv
        replace hm := hm (h109.sm (by kernel_rfl))
        refine opsP T hS 1 (sp := []) (ks := [1, 2, 5, 17, 18]) (bs := [3]) (sy' := ⟨[(1, V (.slice a2 m_.length c2)), (2, Pt 3 0), (5, I i_102), (17, V (.slice a107 (gi f_.Clauses i_102).length c108)), (18, V (.slice a2 m_.length c2))], [(3, (58, [I f_.Vars, V (.slice a1 f_.Clauses.length c1)]))]⟩) (by kernel_rfl) ?_
        intro a hS
        refine op1 (call hS (by kernel_rfl) (by kernel_rfl) hb62 (by kernel_rfl) (fun _ _ => rfl) (k62 _ _ (gi f_.Clauses i_102) m_ a107 c108 a2 c2 h109 h101) ?_)
        intro v110 a w111 χ112 hE hp hS
        replace hO := hO.mv hE rfl rfl
        replace h101 := h101.mv hE rfl
        replace h103 := h103.mv hE rfl
        replace h109 := h109.mv hE rfl
        clear hE
        obtain ⟨r113, hr⟩ : ∃ r, ref02_Holds (gi f_.Clauses i_102) m_ = r := ⟨_, rfl⟩
        replace hm := hm r113 hr
        rw [hr] at hp
        clear hr
        subst hp
        refine endP T hS (sp := []) (ks := [1, 2, 5, 20]) (bs := [3]) (sy' := ⟨[(1, V (.slice a2 m_.length c2)), (2, Pt 3 0), (5, I i_102), (20, B (!r113))], [(3, (58, [I f_.Vars, V (.slice a1 f_.Clauses.length c1)]))]⟩) (by kernel_rfl) ?_
        intro a hS
        refine wcond hS (b := (!r113)) (by kernel_rfl) (fun hb => ?_) (fun hb => ?_)
        · replace hm := hm.1 hb
          refine regP T hS (sp := []) (ks := [4]) (bs := []) (sy' := ⟨[(4, I i_102)], []⟩) (by kernel_rfl) ?_
          intro a hS
          refine wret ?_
          exact fin T hS hO (fun c => c) rfl (r := [.int .i64 i_102]) (by kernel_rfl) (fun χ' hM hC => ⟨i_102, hm, rfl⟩)
        · replace hm := hm.2 hb
          refine wskip ?_
          refine region (endP T hS (sp := []) (ks := [1, 2, 5]) (bs := [3]) (sy' := ⟨[(1, V (.slice a2 m_.length c2)), (2, Pt 3 0), (5, I (IntKind.i64.wrap (i_102 + 1)))], [(3, (58, [I f_.Vars, V (.slice a1 f_.Clauses.length c1)]))]⟩) (by kernel_rfl) ?_)
          intro a hS
          exact ⟨IntKind.i64.wrap (i_102 + 1), ⟨ρ, _, hm.1, hS.sel [1, 2, 5] [3] (by kernel_rfl), hO, h101, h103⟩, hm.2⟩
      · replace hm := hm.2 hb
        refine wexit (by rfl) ?_
        exact ⟨ρ, _, hm, hS.sel [] [] (by kernel_rfl), hO⟩
  · rintro a w117 ⟨ρ, χ116, hm, hS, hO⟩
    unfold VC36_J1 at hm
    refine regP T hS (sp := []) (ks := [4]) (bs := []) (sy' := ⟨[(4, I (-1))], []⟩) (by kernel_rfl) ?_
    intro a hS
    refine wret ?_
    exact fin T hS hO (fun c => c) rfl (r := [.int .i64 (-1)]) (by kernel_rfl) (fun χ' hM hC => ⟨(-1), hm, rfl⟩)
theorem C36 (k62 : S62) (v : ∀ (f_ : Api_Formula) (m_ : List Bool), VC36 f_ m_ (fun r => r = ref04_First f_ m_)) : S36 := by
  intro w χ f_ m_ a1 c1 a2 c2   h1 h2
  refine (W36 k62 w χ f_ m_ a1 c1 a2 c2   _ (v f_ m_) h1 h2).mono ?_
  rintro _ _ _ _ ⟨r, rfl, h⟩
  exact h
def S84 : Prop := ∀ (w : World) (χ : Nat → Nat) (x_ : Int) (y_ : Int), preMul x_ y_ → Ret Try.prog 84 #[.int .u64 x_, .int .u64 y_] xnone w χ (fun w χ' v => v = .tuple #[.int .u64 ((math_bits_Mul64 x_ y_).1), .int .u64 ((math_bits_Mul64 x_ y_).2)])
theorem hb84 : hasBody Try.prog 84 = true := by kernel_rfl
/-- math/bits.Mul64 -/
theorem W84 (w0 : World) (χ0 : Nat → Nat) (x_ : Int) (y_ : Int) (Q : Int × Int → Prop) (hm : VC84 x_ y_ Q) :
    Ret Try.prog 84 #[.int .u64 x_, .int .u64 y_] xnone w0 χ0 (fun w χ' v => ∃ r, Q r ∧ v = .tuple #[.int .u64 r.1, .int .u64 r.2]) := by
  unfold VC84 at hm
  refine enter Try.func84 rfl (vals := [.int .u64 x_, .int .u64 y_]) (by kernel_rfl) ?_
  intro ρ a hS hO hM
  clear hM
  refine regP T hS (sp := []) (ks := [0, 1]) (bs := []) (sy' := ⟨[(0, V (.int .u64 x_)), (1, V (.int .u64 y_))], []⟩) (by kernel_rfl) ?_
  intro a hS
  refine regP T hS (sp := []) (ks := [0, 1, 6]) (bs := []) (sy' := ⟨[(0, V (.int .u64 x_)), (1, V (.int .u64 y_)), (6, V (.int .u64 (IntKind.u64.wrap ((BitVec.ofInt IntKind.u64.bits x_ &&& BitVec.ofInt IntKind.u64.bits 4294967295).toNat : Int))))], []⟩) (by kernel_rfl) ?_
  intro a hS
  refine regP T hS (sp := []) (ks := [0, 1, 6, 7]) (bs := []) (sy' := ⟨[(0, V (.int .u64 x_)), (1, V (.int .u64 y_)), (6, V (.int .u64 (IntKind.u64.wrap ((BitVec.ofInt IntKind.u64.bits x_ &&& BitVec.ofInt IntKind.u64.bits 4294967295).toNat : Int)))), (7, V (.int .u64 ((x_).fdiv (2 ^ 32))))], []⟩) (by kernel_rfl) ?_
  intro a hS
  refine regP T hS (sp := []) (ks := [0, 1, 6, 7, 8]) (bs := []) (sy' := ⟨[(0, V (.int .u64 x_)), (1, V (.int .u64 y_)), (6, V (.int .u64 (IntKind.u64.wrap ((BitVec.ofInt IntKind.u64.bits x_ &&& BitVec.ofInt IntKind.u64.bits 4294967295).toNat : Int)))), (7, V (.int .u64 ((x_).fdiv (2 ^ 32)))), (8, V (.int .u64 (IntKind.u64.wrap ((BitVec.ofInt IntKind.u64.bits y_ &&& BitVec.ofInt IntKind.u64.bits 4294967295).toNat : Int))))], []⟩) (by kernel_rfl) ?_
  intro a hS
  refine regP T hS (sp := []) (ks := [0, 1, 6, 7, 8, 9]) (bs := []) (sy' := ⟨[(0, V (.int .u64 x_)), (1, V (.int .u64 y_)), (6, V (.int .u64 (IntKind.u64.wrap ((BitVec.ofInt IntKind.u64.bits x_ &&& BitVec.ofInt IntKind.u64.bits 4294967295).toNat : Int)))), (7, V (.int .u64 ((x_).fdiv (2 ^ 32)))), (8, V (.int .u64 (IntKind.u64.wrap ((BitVec.ofInt IntKind.u64.bits y_ &&& BitVec.ofInt IntKind.u64.bits 4294967295).toNat : Int)))), (9, V (.int .u64 ((y_).fdiv (2 ^ 32))))], []⟩) (by kernel_rfl) ?_
  intro a hS
  refine regP T hS (sp := []) (ks := [0, 1, 6, 7, 8, 9, 10]) (bs := []) (sy' := ⟨[(0, V (.int .u64 x_)), (1, V (.int .u64 y_)), (6, V (.int .u64 (IntKind.u64.wrap ((BitVec.ofInt IntKind.u64.bits x_ &&& BitVec.ofInt IntKind.u64.bits 4294967295).toNat : Int)))), (7, V (.int .u64 ((x_).fdiv (2 ^ 32)))), (8, V (.int .u64 (IntKind.u64.wrap ((BitVec.ofInt IntKind.u64.bits y_ &&& BitVec.ofInt IntKind.u64.bits 4294967295).toNat : Int)))), (9, V (.int .u64 ((y_).fdiv (2 ^ 32)))), (10, V (.int .u64 (IntKind.u64.wrap ((IntKind.u64.wrap ((BitVec.ofInt IntKind.u64.bits x_ &&& BitVec.ofInt IntKind.u64.bits 4294967295).toNat : Int)) * (IntKind.u64.wrap ((BitVec.ofInt IntKind.u64.bits y_ &&& BitVec.ofInt IntKind.u64.bits 4294967295).toNat : Int))))))], []⟩) (by kernel_rfl) ?_
  intro a hS
  refine regP T hS (sp := []) (ks := [0, 1, 6, 7, 9, 11]) (bs := []) (sy' := ⟨[(0, V (.int .u64 x_)), (1, V (.int .u64 y_)), (6, V (.int .u64 (IntKind.u64.wrap ((BitVec.ofInt IntKind.u64.bits x_ &&& BitVec.ofInt IntKind.u64.bits 4294967295).toNat : Int)))), (7, V (.int .u64 ((x_).fdiv (2 ^ 32)))), (9, V (.int .u64 ((y_).fdiv (2 ^ 32)))), (11, V (.int .u64 (IntKind.u64.wrap ((IntKind.u64.wrap (((x_).fdiv (2 ^ 32)) * (IntKind.u64.wrap ((BitVec.ofInt IntKind.u64.bits y_ &&& BitVec.ofInt IntKind.u64.bits 4294967295).toNat : Int)))) + (((IntKind.u64.wrap ((IntKind.u64.wrap ((BitVec.ofInt IntKind.u64.bits x_ &&& BitVec.ofInt IntKind.u64.bits 4294967295).toNat : Int)) * (IntKind.u64.wrap ((BitVec.ofInt IntKind.u64.bits y_ &&& BitVec.ofInt IntKind.u64.bits 4294967295).toNat : Int))))).fdiv (2 ^ 32))))))], []⟩) (by kernel_rfl) ?_
  intro a hS
  refine regP T hS (sp := []) (ks := [0, 1, 6, 7, 9, 11, 12]) (bs := []) (sy' := ⟨[(0, V (.int .u64 x_)), (1, V (.int .u64 y_)), (6, V (.int .u64 (IntKind.u64.wrap ((BitVec.ofInt IntKind.u64.bits x_ &&& BitVec.ofInt IntKind.u64.bits 4294967295).toNat : Int)))), (7, V (.int .u64 ((x_).fdiv (2 ^ 32)))), (9, V (.int .u64 ((y_).fdiv (2 ^ 32)))), (11, V (.int .u64 (IntKind.u64.wrap ((IntKind.u64.wrap (((x_).fdiv (2 ^ 32)) * (IntKind.u64.wrap ((BitVec.ofInt IntKind.u64.bits y_ &&& BitVec.ofInt IntKind.u64.bits 4294967295).toNat : Int)))) + (((IntKind.u64.wrap ((IntKind.u64.wrap ((BitVec.ofInt IntKind.u64.bits x_ &&& BitVec.ofInt IntKind.u64.bits 4294967295).toNat : Int)) * (IntKind.u64.wrap ((BitVec.ofInt IntKind.u64.bits y_ &&& BitVec.ofInt IntKind.u64.bits 4294967295).toNat : Int))))).fdiv (2 ^ 32)))))), (12, V (.int .u64 (IntKind.u64.wrap ((BitVec.ofInt IntKind.u64.bits (IntKind.u64.wrap ((IntKind.u64.wrap (((x_).fdiv (2 ^ 32)) * (IntKind.u64.wrap ((BitVec.ofInt IntKind.u64.bits y_ &&& BitVec.ofInt IntKind.u64.bits 4294967295).toNat : Int)))) + (((IntKind.u64.wrap ((IntKind.u64.wrap ((BitVec.ofInt IntKind.u64.bits x_ &&& BitVec.ofInt IntKind.u64.bits 4294967295).toNat : Int)) * (IntKind.u64.wrap ((BitVec.ofInt IntKind.u64.bits y_ &&& BitVec.ofInt IntKind.u64.bits 4294967295).toNat : Int))))).fdiv (2 ^ 32)))) &&& BitVec.ofInt IntKind.u64.bits 4294967295).toNat : Int))))], []⟩) (by kernel_rfl) ?_
  intro a hS
  refine regP T hS (sp := []) (ks := [0, 1, 6, 7, 9, 12, 13]) (bs := []) (sy' := ⟨[(0, V (.int .u64 x_)), (1, V (.int .u64 y_)), (6, V (.int .u64 (IntKind.u64.wrap ((BitVec.ofInt IntKind.u64.bits x_ &&& BitVec.ofInt IntKind.u64.bits 4294967295).toNat : Int)))), (7, V (.int .u64 ((x_).fdiv (2 ^ 32)))), (9, V (.int .u64 ((y_).fdiv (2 ^ 32)))), (12, V (.int .u64 (IntKind.u64.wrap ((BitVec.ofInt IntKind.u64.bits (IntKind.u64.wrap ((IntKind.u64.wrap (((x_).fdiv (2 ^ 32)) * (IntKind.u64.wrap ((BitVec.ofInt IntKind.u64.bits y_ &&& BitVec.ofInt IntKind.u64.bits 4294967295).toNat : Int)))) + (((IntKind.u64.wrap ((IntKind.u64.wrap ((BitVec.ofInt IntKind.u64.bits x_ &&& BitVec.ofInt IntKind.u64.bits 4294967295).toNat : Int)) * (IntKind.u64.wrap ((BitVec.ofInt IntKind.u64.bits y_ &&& BitVec.ofInt IntKind.u64.bits 4294967295).toNat : Int))))).fdiv (2 ^ 32)))) &&& BitVec.ofInt IntKind.u64.bits 4294967295).toNat : Int)))), (13, V (.int .u64 (((IntKind.u64.wrap ((IntKind.u64.wrap (((x_).fdiv (2 ^ 32)) * (IntKind.u64.wrap ((BitVec.ofInt IntKind.u64.bits y_ &&& BitVec.ofInt IntKind.u64.bits 4294967295).toNat : Int)))) + (((IntKind.u64.wrap ((IntKind.u64.wrap ((BitVec.ofInt IntKind.u64.bits x_ &&& BitVec.ofInt IntKind.u64.bits 4294967295).toNat : Int)) * (IntKind.u64.wrap ((BitVec.ofInt IntKind.u64.bits y_ &&& BitVec.ofInt IntKind.u64.bits 4294967295).toNat : Int))))).fdiv (2 ^ 32))))).fdiv (2 ^ 32))))], []⟩) (by kernel_rfl) ?_
  intro a hS
  refine regP T hS (sp := []) (ks := [0, 1, 7, 9, 12, 13]) (bs := []) (sy' := ⟨[(0, V (.int .u64 x_)), (1, V (.int .u64 y_)), (7, V (.int .u64 ((x_).fdiv (2 ^ 32)))), (9, V (.int .u64 ((y_).fdiv (2 ^ 32)))), (12, V (.int .u64 (IntKind.u64.wrap ((IntKind.u64.wrap ((BitVec.ofInt IntKind.u64.bits (IntKind.u64.wrap ((IntKind.u64.wrap (((x_).fdiv (2 ^ 32)) * (IntKind.u64.wrap ((BitVec.ofInt IntKind.u64.bits y_ &&& BitVec.ofInt IntKind.u64.bits 4294967295).toNat : Int)))) + (((IntKind.u64.wrap ((IntKind.u64.wrap ((BitVec.ofInt IntKind.u64.bits x_ &&& BitVec.ofInt IntKind.u64.bits 4294967295).toNat : Int)) * (IntKind.u64.wrap ((BitVec.ofInt IntKind.u64.bits y_ &&& BitVec.ofInt IntKind.u64.bits 4294967295).toNat : Int))))).fdiv (2 ^ 32)))) &&& BitVec.ofInt IntKind.u64.bits 4294967295).toNat : Int)) + (IntKind.u64.wrap ((IntKind.u64.wrap ((BitVec.ofInt IntKind.u64.bits x_ &&& BitVec.ofInt IntKind.u64.bits 4294967295).toNat : Int)) * ((y_).fdiv (2 ^ 32)))))))), (13, V (.int .u64 (((IntKind.u64.wrap ((IntKind.u64.wrap (((x_).fdiv (2 ^ 32)) * (IntKind.u64.wrap ((BitVec.ofInt IntKind.u64.bits y_ &&& BitVec.ofInt IntKind.u64.bits 4294967295).toNat : Int)))) + (((IntKind.u64.wrap ((IntKind.u64.wrap ((BitVec.ofInt IntKind.u64.bits x_ &&& BitVec.ofInt IntKind.u64.bits 4294967295).toNat : Int)) * (IntKind.u64.wrap ((BitVec.ofInt IntKind.u64.bits y_ &&& BitVec.ofInt IntKind.u64.bits 4294967295).toNat : Int))))).fdiv (2 ^ 32))))).fdiv (2 ^ 32))))], []⟩) (by kernel_rfl) ?_
  intro a hS
  refine regP T hS (sp := []) (ks := [0, 1, 4]) (bs := []) (sy' := ⟨[(0, V (.int .u64 x_)), (1, V (.int .u64 y_)), (4, V (.int .u64 (IntKind.u64.wrap ((IntKind.u64.wrap ((IntKind.u64.wrap (((x_).fdiv (2 ^ 32)) * ((y_).fdiv (2 ^ 32)))) + (((IntKind.u64.wrap ((IntKind.u64.wrap (((x_).fdiv (2 ^ 32)) * (IntKind.u64.wrap ((BitVec.ofInt IntKind.u64.bits y_ &&& BitVec.ofInt IntKind.u64.bits 4294967295).toNat : Int)))) + (((IntKind.u64.wrap ((IntKind.u64.wrap ((BitVec.ofInt IntKind.u64.bits x_ &&& BitVec.ofInt IntKind.u64.bits 4294967295).toNat : Int)) * (IntKind.u64.wrap ((BitVec.ofInt IntKind.u64.bits y_ &&& BitVec.ofInt IntKind.u64.bits 4294967295).toNat : Int))))).fdiv (2 ^ 32))))).fdiv (2 ^ 32)))) + (((IntKind.u64.wrap ((IntKind.u64.wrap ((BitVec.ofInt IntKind.u64.bits (IntKind.u64.wrap ((IntKind.u64.wrap (((x_).fdiv (2 ^ 32)) * (IntKind.u64.wrap ((BitVec.ofInt IntKind.u64.bits y_ &&& BitVec.ofInt IntKind.u64.bits 4294967295).toNat : Int)))) + (((IntKind.u64.wrap ((IntKind.u64.wrap ((BitVec.ofInt IntKind.u64.bits x_ &&& BitVec.ofInt IntKind.u64.bits 4294967295).toNat : Int)) * (IntKind.u64.wrap ((BitVec.ofInt IntKind.u64.bits y_ &&& BitVec.ofInt IntKind.u64.bits 4294967295).toNat : Int))))).fdiv (2 ^ 32)))) &&& BitVec.ofInt IntKind.u64.bits 4294967295).toNat : Int)) + (IntKind.u64.wrap ((IntKind.u64.wrap ((BitVec.ofInt IntKind.u64.bits x_ &&& BitVec.ofInt IntKind.u64.bits 4294967295).toNat : Int)) * ((y_).fdiv (2 ^ 32))))))).fdiv (2 ^ 32))))))], []⟩) (by kernel_rfl) ?_
  intro a hS
  refine regP T hS (sp := []) (ks := [4, 5]) (bs := []) (sy' := ⟨[(4, V (.int .u64 (IntKind.u64.wrap ((IntKind.u64.wrap ((IntKind.u64.wrap (((x_).fdiv (2 ^ 32)) * ((y_).fdiv (2 ^ 32)))) + (((IntKind.u64.wrap ((IntKind.u64.wrap (((x_).fdiv (2 ^ 32)) * (IntKind.u64.wrap ((BitVec.ofInt IntKind.u64.bits y_ &&& BitVec.ofInt IntKind.u64.bits 4294967295).toNat : Int)))) + (((IntKind.u64.wrap ((IntKind.u64.wrap ((BitVec.ofInt IntKind.u64.bits x_ &&& BitVec.ofInt IntKind.u64.bits 4294967295).toNat : Int)) * (IntKind.u64.wrap ((BitVec.ofInt IntKind.u64.bits y_ &&& BitVec.ofInt IntKind.u64.bits 4294967295).toNat : Int))))).fdiv (2 ^ 32))))).fdiv (2 ^ 32)))) + (((IntKind.u64.wrap ((IntKind.u64.wrap ((BitVec.ofInt IntKind.u64.bits (IntKind.u64.wrap ((IntKind.u64.wrap (((x_).fdiv (2 ^ 32)) * (IntKind.u64.wrap ((BitVec.ofInt IntKind.u64.bits y_ &&& BitVec.ofInt IntKind.u64.bits 4294967295).toNat : Int)))) + (((IntKind.u64.wrap ((IntKind.u64.wrap ((BitVec.ofInt IntKind.u64.bits x_ &&& BitVec.ofInt IntKind.u64.bits 4294967295).toNat : Int)) * (IntKind.u64.wrap ((BitVec.ofInt IntKind.u64.bits y_ &&& BitVec.ofInt IntKind.u64.bits 4294967295).toNat : Int))))).fdiv (2 ^ 32)))) &&& BitVec.ofInt IntKind.u64.bits 4294967295).toNat : Int)) + (IntKind.u64.wrap ((IntKind.u64.wrap ((BitVec.ofInt IntKind.u64.bits x_ &&& BitVec.ofInt IntKind.u64.bits 4294967295).toNat : Int)) * ((y_).fdiv (2 ^ 32))))))).fdiv (2 ^ 32)))))), (5, V (.int .u64 (IntKind.u64.wrap (x_ * y_))))], []⟩) (by kernel_rfl) ?_
  intro a hS
  refine wret ?_
  exact fin T hS hO (fun c => c) rfl (r := [.int .u64 (IntKind.u64.wrap ((IntKind.u64.wrap ((IntKind.u64.wrap (((x_).fdiv (2 ^ 32)) * ((y_).fdiv (2 ^ 32)))) + (((IntKind.u64.wrap ((IntKind.u64.wrap (((x_).fdiv (2 ^ 32)) * (IntKind.u64.wrap ((BitVec.ofInt IntKind.u64.bits y_ &&& BitVec.ofInt IntKind.u64.bits 4294967295).toNat : Int)))) + (((IntKind.u64.wrap ((IntKind.u64.wrap ((BitVec.ofInt IntKind.u64.bits x_ &&& BitVec.ofInt IntKind.u64.bits 4294967295).toNat : Int)) * (IntKind.u64.wrap ((BitVec.ofInt IntKind.u64.bits y_ &&& BitVec.ofInt IntKind.u64.bits 4294967295).toNat : Int))))).fdiv (2 ^ 32))))).fdiv (2 ^ 32)))) + (((IntKind.u64.wrap ((IntKind.u64.wrap ((BitVec.ofInt IntKind.u64.bits (IntKind.u64.wrap ((IntKind.u64.wrap (((x_).fdiv (2 ^ 32)) * (IntKind.u64.wrap ((BitVec.ofInt IntKind.u64.bits y_ &&& BitVec.ofInt IntKind.u64.bits 4294967295).toNat : Int)))) + (((IntKind.u64.wrap ((IntKind.u64.wrap ((BitVec.ofInt IntKind.u64.bits x_ &&& BitVec.ofInt IntKind.u64.bits 4294967295).toNat : Int)) * (IntKind.u64.wrap ((BitVec.ofInt IntKind.u64.bits y_ &&& BitVec.ofInt IntKind.u64.bits 4294967295).toNat : Int))))).fdiv (2 ^ 32)))) &&& BitVec.ofInt IntKind.u64.bits 4294967295).toNat : Int)) + (IntKind.u64.wrap ((IntKind.u64.wrap ((BitVec.ofInt IntKind.u64.bits x_ &&& BitVec.ofInt IntKind.u64.bits 4294967295).toNat : Int)) * ((y_).fdiv (2 ^ 32))))))).fdiv (2 ^ 32)))), .int .u64 (IntKind.u64.wrap (x_ * y_))]) (by kernel_rfl) (fun χ' hM hC => ⟨(IntKind.u64.wrap ((IntKind.u64.wrap ((IntKind.u64.wrap (((x_).fdiv (2 ^ 32)) * ((y_).fdiv (2 ^ 32)))) + (((IntKind.u64.wrap ((IntKind.u64.wrap (((x_).fdiv (2 ^ 32)) * (IntKind.u64.wrap ((BitVec.ofInt IntKind.u64.bits y_ &&& BitVec.ofInt IntKind.u64.bits 4294967295).toNat : Int)))) + (((IntKind.u64.wrap ((IntKind.u64.wrap ((BitVec.ofInt IntKind.u64.bits x_ &&& BitVec.ofInt IntKind.u64.bits 4294967295).toNat : Int)) * (IntKind.u64.wrap ((BitVec.ofInt IntKind.u64.bits y_ &&& BitVec.ofInt IntKind.u64.bits 4294967295).toNat : Int))))).fdiv (2 ^ 32))))).fdiv (2 ^ 32)))) + (((IntKind.u64.wrap ((IntKind.u64.wrap ((BitVec.ofInt IntKind.u64.bits (IntKind.u64.wrap ((IntKind.u64.wrap (((x_).fdiv (2 ^ 32)) * (IntKind.u64.wrap ((BitVec.ofInt IntKind.u64.bits y_ &&& BitVec.ofInt IntKind.u64.bits 4294967295).toNat : Int)))) + (((IntKind.u64.wrap ((IntKind.u64.wrap ((BitVec.ofInt IntKind.u64.bits x_ &&& BitVec.ofInt IntKind.u64.bits 4294967295).toNat : Int)) * (IntKind.u64.wrap ((BitVec.ofInt IntKind.u64.bits y_ &&& BitVec.ofInt IntKind.u64.bits 4294967295).toNat : Int))))).fdiv (2 ^ 32)))) &&& BitVec.ofInt IntKind.u64.bits 4294967295).toNat : Int)) + (IntKind.u64.wrap ((IntKind.u64.wrap ((BitVec.ofInt IntKind.u64.bits x_ &&& BitVec.ofInt IntKind.u64.bits 4294967295).toNat : Int)) * ((y_).fdiv (2 ^ 32))))))).fdiv (2 ^ 32))), IntKind.u64.wrap (x_ * y_)), hm, rfl⟩)
theorem C84 (v : ∀ (x_ : Int) (y_ : Int), preMul x_ y_ → VC84 x_ y_ (fun r => r = math_bits_Mul64 x_ y_)) : S84 := by
  intro w χ x_ y_    hp 
  refine (W84 w χ x_ y_    _ (v x_ y_ hp)).mono ?_
  rintro _ _ _ _ ⟨r, rfl, h⟩
  exact h
def S81 : Prop := ∀ (w : World) (χ : Nat → Nat) (x_ : Int) (y_ : Int), preMul x_ y_ → Ret Try.prog 81 #[.int .u64 x_, .int .u64 y_] xnone w χ (fun w χ' v => v = .tuple #[.int .u64 ((math_bits_Mul x_ y_).1), .int .u64 ((math_bits_Mul x_ y_).2)])
theorem hb81 : hasBody Try.prog 81 = true := by kernel_rfl
/-- math/bits.Mul -/
theorem W81 (k84 : S84) (w0 : World) (χ0 : Nat → Nat) (x_ : Int) (y_ : Int) (Q : Int × Int → Prop) (hm : VC81 x_ y_ Q) :
    Ret Try.prog 81 #[.int .u64 x_, .int .u64 y_] xnone w0 χ0 (fun w χ' v => ∃ r, Q r ∧ v = .tuple #[.int .u64 r.1, .int .u64 r.2]) := by
  unfold VC81 at hm
  refine enter Try.func81 rfl (vals := [.int .u64 x_, .int .u64 y_]) (by kernel_rfl) ?_
  intro ρ a hS hO hM
  clear hM
  refine regP T hS (sp := []) (ks := [0, 1]) (bs := []) (sy' := ⟨[(0, V (.int .u64 x_)), (1, V (.int .u64 y_))], []⟩) (by kernel_rfl) ?_
  intro a hS
  refine wseq ?_
  refine wcond hS (b := false) (by kernel_rfl) (fun hb => by cases hb) (fun _ => ?_)
  refine wskip ?_
  refine regO ?_
  refine opsP T hS 2 (sp := []) (ks := [23, 24]) (bs := []) (sy' := ⟨[(23, V (.int .u64 x_)), (24, V (.int .u64 y_))], []⟩) (by kernel_rfl) ?_
  intro a hS
  obtain ⟨hq, hm⟩ := hm
  refine op1 (call hS (by kernel_rfl) (by kernel_rfl) hb84 (by kernel_rfl) (fun _ _ => rfl) (k84 _ _ x_ y_ hq) ?_)
  intro v101 a w102 χ103 hE hp hS
  clear hq
  replace hO := hO.mv hE rfl rfl
  clear hE
  obtain ⟨r104, hr⟩ : ∃ r, math_bits_Mul64 x_ y_ = r := ⟨_, rfl⟩
  replace hm := hm r104 hr
  rw [hr] at hp
  clear hr
  subst hp
  refine endP T hS (sp := []) (ks := [8, 9]) (bs := []) (sy' := ⟨[(8, V (.int .u64 r104.1)), (9, V (.int .u64 r104.2))], []⟩) (by kernel_rfl) ?_
  intro a hS
  refine regP T hS (sp := []) (ks := [4, 5]) (bs := []) (sy' := ⟨[(4, V (.int .u64 r104.1)), (5, V (.int .u64 r104.2))], []⟩) (by kernel_rfl) ?_
  intro a hS
  refine wret ?_
  exact fin T hS hO (fun c => c) rfl (r := [.int .u64 r104.1, .int .u64 r104.2]) (by kernel_rfl) (fun χ' hM hC => ⟨(r104.1, r104.2), hm, rfl⟩)
theorem C81 (k84 : S84) (v : ∀ (x_ : Int) (y_ : Int), preMul x_ y_ → VC81 x_ y_ (fun r => r = math_bits_Mul x_ y_)) : S81 := by
  intro w χ x_ y_    hp 
  refine (W81 k84 w χ x_ y_    _ (v x_ y_ hp)).mono ?_
  rintro _ _ _ _ ⟨r, rfl, h⟩
  exact h
def S76 : Prop := ∀ (w : World) (χ : Nat → Nat) (x_ : List Int) (count : Int) (a1 : Option Addr) (c1 : Nat) (col1 : Nat), preRep x_ count → RS tI w χ a1 x_ c1 → Ret Try.prog 76 #[.slice a1 x_.length c1, .int .i64 count] xnone w χ (fun w χ' v => ∃ (ra1 : Option Addr) (rc1 : Nat), v = .slice ra1 (slices_Repeat_int_int x_ count).length rc1 ∧ OS tI 3 w χ' col1 ra1 (slices_Repeat_int_int x_ count) rc1)
theorem hb76 : hasBody Try.prog 76 = true := by kernel_rfl
/-- slices.Repeat[[]int,int] -/
theorem W76 (k81 : S81) (w0 : World) (χ0 : Nat → Nat) (x_ : List Int) (count : Int) (a1 : Option Addr) (c1 : Nat) (col1 : Nat) (Q : (List Int) → Prop) (hm : VC76 x_ count Q) (h1 : RS tI w0 χ0 a1 x_ c1) :
    Ret Try.prog 76 #[.slice a1 x_.length c1, .int .i64 count] xnone w0 χ0 (fun w χ' v => ∃ r, Q r ∧ ∃ (ra1 : Option Addr) (rc1 : Nat), v = .slice ra1 r.length rc1 ∧ OS tI 3 w χ' col1 ra1 r rc1) := by
  unfold VC76 at hm
  replace hm := hm (h1.sm (by kernel_rfl))
  refine enter Try.func76 rfl (vals := [.slice a1 x_.length c1, .int .i64 count]) (by kernel_rfl) ?_
  intro ρ a hS hO hM
  replace h1 := h1.m0 hM
  clear hM
  refine regP T hS (sp := []) (ks := [0, 1]) (bs := []) (sy' := ⟨[(0, V (.slice a1 x_.length c1)), (1, I count)], []⟩) (by kernel_rfl) ?_
  intro a hS
  refine wseq ?_
  refine regP T hS (sp := []) (ks := [0, 1, 10]) (bs := []) (sy' := ⟨[(0, V (.slice a1 x_.length c1)), (1, I count), (10, B (decide (count < 0)))], []⟩) (by kernel_rfl) ?_
  intro a hS
  refine wcond hS (b := decide (count < 0)) (by kernel_rfl) (fun hb => ?_) (fun hb => ?_)
  · replace hm := hm.1 hb
    exact hm.elim
  · replace hm := hm.2 hb
    refine wskip ?_
    refine regO ?_
    refine opsP T hS 5 (sp := []) (ks := [0, 15, 17]) (bs := []) (sy' := ⟨[(0, V (.slice a1 x_.length c1)), (15, V (.int .u64 (IntKind.u64.wrap ((x_.length : Nat) : Int)))), (17, V (.int .u64 (IntKind.u64.wrap count)))], []⟩) (by kernel_rfl) ?_
    intro a hS
    obtain ⟨hq, hm⟩ := hm
    refine op1 (call hS (by kernel_rfl) (by kernel_rfl) hb81 (by kernel_rfl) (fun _ _ => rfl) (k81 _ _ (IntKind.u64.wrap ((x_.length : Nat) : Int)) (IntKind.u64.wrap count) hq) ?_)
    intro v101 a w102 χ103 hE hp hS
    clear hq
    replace hO := hO.mv hE rfl rfl
    replace h1 := h1.mv hE rfl
    clear hE
    obtain ⟨r104, hr⟩ : ∃ r, math_bits_Mul (IntKind.u64.wrap ((x_.length : Nat) : Int)) (IntKind.u64.wrap count) = r := ⟨_, rfl⟩
    replace hm := hm r104 hr
    rw [hr] at hp
    clear hr
    subst hp
    refine endP T hS (sp := []) (ks := [0, 5, 6]) (bs := []) (sy' := ⟨[(0, V (.slice a1 x_.length c1)), (5, V (.int .u64 r104.1)), (6, V (.int .u64 r104.2))], []⟩) (by kernel_rfl) ?_
    intro a hS
    refine wseq ?_
    refine regP T hS (sp := [23]) (ks := [0, 6, 26]) (bs := []) (sy' := ⟨[(0, V (.slice a1 x_.length c1)), (6, V (.int .u64 r104.2)), (26, B ((decide (r104.1 > 0)) || (decide (r104.2 > 9223372036854775807))))], []⟩) (by kernel_rfl) ?_
    intro a hS
    refine wcond hS (b := ((decide (r104.1 > 0)) || (decide (r104.2 > 9223372036854775807)))) (by kernel_rfl) (fun hb => ?_) (fun hb => ?_)
    · replace hm := hm.1 hb
      exact hm.elim
    · replace hm := hm.2 hb
      refine wskip ?_
      refine regO ?_
      refine opsP T hS 2 (sp := []) (ks := [0, 29]) (bs := []) (sy' := ⟨[(0, V (.slice a1 x_.length c1)), (29, I (IntKind.i64.wrap r104.2))], []⟩) (by kernel_rfl) ?_
      intro a hS
      obtain ⟨hq, hm⟩ := hm
      refine op1 (make (E := 3) (kl := .i64) (kc := .i64) (col := 1005) (T := tI) T 0 hS (by kernel_rfl) (by kernel_rfl) (by kernel_rfl) (by kernel_rfl) (by kernel_rfl) (by kernel_rfl) hq.1 hq.2.1 (by have := hq.2.2; simp only [tI, tInt, tBool, tStr, tSlice]; omega) (by have := hq.2.2; omega) (fun _ _ => rfl) ?_)
      intro b105 a w106 χ107 hE h108 hN hS
      clear hq hN
      replace hO := hO.mv hE rfl rfl
      replace h1 := h1.mv hE rfl
      clear hE
      replace hS := hS.conv (t := 30) (y := .slice (some ⟨b105, 0, none⟩) (List.replicate (IntKind.i64.wrap r104.2).toNat (0 : Int)).length (IntKind.i64.wrap r104.2).toNat) (by kernel_rfl) (by rw [List.length_replicate])
      refine endP T hS (sp := []) (ks := [0, 7]) (bs := []) (sy' := ⟨[(0, V (.slice a1 x_.length c1)), (7, V (.slice (some ⟨b105, 0, none⟩) (List.replicate (IntKind.i64.wrap r104.2).toNat (0 : Int)).length (IntKind.i64.wrap r104.2).toNat))], []⟩) (by kernel_rfl) ?_
      intro a hS
      refine regO ?_
      refine opsP T hS 2 (sp := []) (ks := [7, 31, 32]) (bs := []) (sy' := ⟨[(7, V (.slice (some ⟨b105, 0, none⟩) (List.replicate (IntKind.i64.wrap r104.2).toNat (0 : Int)).length (IntKind.i64.wrap r104.2).toNat)), (31, V (.slice (some ⟨b105, 0, none⟩) (List.replicate (IntKind.i64.wrap r104.2).toNat (0 : Int)).length (IntKind.i64.wrap r104.2).toNat)), (32, V (.slice a1 x_.length c1))], []⟩) (by kernel_rfl) ?_
      intro a hS
      obtain ⟨news, hN⟩ := h1.src
      refine op1 (copyO (E := 3) (T := tI) (xs := List.replicate (IntKind.i64.wrap r104.2).toNat (0 : Int)) (ys := x_) (l := 0) (cx := (IntKind.i64.wrap r104.2).toNat) T hS (by kernel_rfl) (by kernel_rfl) (by kernel_rfl) (adAt_zero h108) (by kernel_rfl) h108 hN (by kernel_rfl) (by kernel_rfl) (by kernel_rfl) (Nat.zero_le _) ?_)
      intro a w109 hE h110 hS
      clear hN h108
      replace hO := hO.mv hE rfl rfl
      replace h1 := h1.mv hE rfl
      clear hE
      replace hS := hS.conv (t := 7) (x := .slice (some ⟨b105, 0, none⟩) (List.replicate (IntKind.i64.wrap r104.2).toNat (0 : Int)).length (IntKind.i64.wrap r104.2).toNat) (y := .slice (some ⟨b105, 0, none⟩) ((List.replicate (IntKind.i64.wrap r104.2).toNat (0 : Int)).take 0 ++ x_.take ((List.replicate (IntKind.i64.wrap r104.2).toNat (0 : Int)).length - 0) ++ (List.replicate (IntKind.i64.wrap r104.2).toNat (0 : Int)).drop (0 + min x_.length ((List.replicate (IntKind.i64.wrap r104.2).toNat (0 : Int)).length - 0))).length (IntKind.i64.wrap r104.2).toNat) (by kernel_rfl) (by simp only [List.length_append, List.length_take, List.length_drop]; congr 1 <;> omega)
      replace hS := hS.conv (t := 31) (x := .slice (some ⟨b105, 0, none⟩) (List.replicate (IntKind.i64.wrap r104.2).toNat (0 : Int)).length (IntKind.i64.wrap r104.2).toNat) (y := .slice (some ⟨b105, 0, none⟩) ((List.replicate (IntKind.i64.wrap r104.2).toNat (0 : Int)).take 0 ++ x_.take ((List.replicate (IntKind.i64.wrap r104.2).toNat (0 : Int)).length - 0) ++ (List.replicate (IntKind.i64.wrap r104.2).toNat (0 : Int)).drop (0 + min x_.length ((List.replicate (IntKind.i64.wrap r104.2).toNat (0 : Int)).length - 0))).length (IntKind.i64.wrap r104.2).toNat) (by kernel_rfl) (by simp only [List.length_append, List.length_take, List.length_drop]; congr 1 <;> omega)
      refine endP T hS (sp := []) (ks := [7, 8]) (bs := []) (sy' := ⟨[(7, V (.slice (some ⟨b105, 0, none⟩) ((List.replicate (IntKind.i64.wrap r104.2).toNat (0 : Int)).take 0 ++ x_.take ((List.replicate (IntKind.i64.wrap r104.2).toNat (0 : Int)).length - 0) ++ (List.replicate (IntKind.i64.wrap r104.2).toNat (0 : Int)).drop (0 + min x_.length ((List.replicate (IntKind.i64.wrap r104.2).toNat (0 : Int)).length - 0))).length (IntKind.i64.wrap r104.2).toNat)), (8, I ((min x_.length ((List.replicate (IntKind.i64.wrap r104.2).toNat (0 : Int)).length - 0) : Nat) : Int))], []⟩) (by kernel_rfl) ?_
      intro a hS
      refine wcut (fun a w => ∃ (ρ : Nat → Nat) (χ : Nat → Nat) (newslice_111 : List Int) (a112 : Option Addr) (c113 : Nat), VC76_J1 Q newslice_111 ∧ St Try.f76.ntmps ⟨[(7, V (.slice a112 newslice_111.length c113))], []⟩ ρ a w χ ∧ Old w0 χ0 w χ ∧ OS tI 3 w χ 1005 a112 newslice_111 c113) ?_ ?_
      · refine wblock ?_
        obtain ⟨I1, μ1, hm0, hm⟩ := hm
        refine wloop (σ := (List Int) × Int) (fun s a w => ∃ (ρ : Nat → Nat) (χ : Nat → Nat) (a116 : Option Addr) (c117 : Nat), I1 s.1 s.2 ∧ St Try.f76.ntmps ⟨[(7, V (.slice a116 s.1.length c117)), (8, I s.2)], []⟩ ρ a w χ ∧ Old w0 χ0 w χ ∧ OS tI 3 w χ 1005 a116 s.1 c117) (fun s => μ1 s.1 s.2) (⟨(List.replicate (IntKind.i64.wrap r104.2).toNat (0 : Int)).take 0 ++ x_.take ((List.replicate (IntKind.i64.wrap r104.2).toNat (0 : Int)).length - 0) ++ (List.replicate (IntKind.i64.wrap r104.2).toNat (0 : Int)).drop (0 + min x_.length ((List.replicate (IntKind.i64.wrap r104.2).toNat (0 : Int)).length - 0)), ((min x_.length ((List.replicate (IntKind.i64.wrap r104.2).toNat (0 : Int)).length - 0) : Nat) : Int)⟩) ?_ ?_
        · exact ⟨ρ, _, (some ⟨b105, 0, none⟩), (IntKind.i64.wrap r104.2).toNat, hm0, hS.sel [7, 8] [] (by kernel_rfl), hO, h110⟩
        · rintro ⟨newslice_115, n_119⟩ a w126 ⟨ρ, χ125, a116, c117, hI, hS, hO, h118⟩
          replace hm := hm newslice_115 n_119 hI
          clear hI hm0
          refine wseq ?_
          refine regP T hS (sp := []) (ks := [7, 8, 37]) (bs := []) (sy' := ⟨[(7, V (.slice a116 newslice_115.length c117)), (8, I n_119), (37, B (decide (n_119 < ((newslice_115.length : Nat) : Int))))], []⟩) (by kernel_rfl) ?_
          intro a hS
          refine wcond hS (b := decide (n_119 < ((newslice_115.length : Nat) : Int))) (by kernel_rfl) (fun hb => ?_) (fun hb => ?_)
          · replace hm := hm.1 hb
            refine wskip ?_
            refine wblock ?_
            refine drawn [] mixed hS ?_
            intro w120 hS hE hD hH
            replace hO := hO.mv hE rfl rfl
            replace h118 := h118.mv hE rfl rfl
            clear hE
            refine take T [0, 1, 2, 4, 5] [] [7, 8, 38, 39, 40, 42, 43] hS (by kernel_rfl) (by kernel_rfl) (by kernel_rfl) hH (listed' := #[true, true, true, false, true, true, false, false, false, false]) (fuel := 5) (sy' := ⟨[(7, V (.slice a116 newslice_115.length c117)), (8, I n_119), (38, I n_119), (39, V (.slice a116 newslice_115.length c117)), (40, I n_119), (42, V (.slice a116 newslice_115.length c117)), (43, I n_119)], []⟩) (by kernel_rfl) (by rfl) ?_
            intro a hS
            obtain ⟨hq121, hm⟩ := hm
            refine dsliceL (E := 3) (k := .i64) (l := n_119) T 3 hS (by kernel_rfl) (by kernel_rfl) (by kernel_rfl) (by rfl) (by kernel_rfl) hH (by kernel_rfl) (by kernel_rfl) h118 (by kernel_rfl) (by kernel_rfl) hq121.1 hq121.2 ?_
            intro a hS
            obtain ⟨hq122, hm⟩ := hm
            refine dsliceH (E := 3) (k := .i64) (l := n_119) T 6 hS (by kernel_rfl) (by kernel_rfl) (by kernel_rfl) (by rfl) (by kernel_rfl) hH (by kernel_rfl) (by kernel_rfl) h118 (by kernel_rfl) (by kernel_rfl) hq122.1 hq122.2 ?_
            intro a hS
            obtain ⟨news, hN⟩ := (h118.srcTake n_119.toNat)
            refine only 7 (by kernel_rfl) (by rfl) (copyO (E := 3) (T := tI) (xs := newslice_115) (ys := newslice_115.take n_119.toNat) (l := n_119.toNat) (cx := c117 - n_119.toNat) T hS (by kernel_rfl) (by kernel_rfl) (by kernel_rfl) rfl (by kernel_rfl) h118 hN (by kernel_rfl) (by kernel_rfl) (by kernel_rfl) (by have := hq121.1; have := hq121.2; omega) ?_)
            intro a w123 hE h124 hS
            clear hN h118
            replace hO := hO.mv hE rfl rfl
            replace hD := hD.ev hE rfl
            clear hE
            replace hS := hS.conv (t := 7) (x := .slice a116 newslice_115.length c117) (y := .slice a116 (newslice_115.take n_119.toNat ++ (newslice_115.take n_119.toNat).take (newslice_115.length - n_119.toNat) ++ newslice_115.drop (n_119.toNat + min (newslice_115.take n_119.toNat).length (newslice_115.length - n_119.toNat))).length c117) (by kernel_rfl) (by have := hq121.1; have := hq121.2; simp only [List.length_append, List.length_take, List.length_drop]; congr 1 <;> omega)
            replace hS := hS.conv (t := 39) (x := .slice a116 newslice_115.length c117) (y := .slice a116 (newslice_115.take n_119.toNat ++ (newslice_115.take n_119.toNat).take (newslice_115.length - n_119.toNat) ++ newslice_115.drop (n_119.toNat + min (newslice_115.take n_119.toNat).length (newslice_115.length - n_119.toNat))).length c117) (by kernel_rfl) (by have := hq121.1; have := hq121.2; simp only [List.length_append, List.length_take, List.length_drop]; congr 1 <;> omega)
            replace hS := hS.conv (t := 42) (x := .slice a116 newslice_115.length c117) (y := .slice a116 (newslice_115.take n_119.toNat ++ (newslice_115.take n_119.toNat).take (newslice_115.length - n_119.toNat) ++ newslice_115.drop (n_119.toNat + min (newslice_115.take n_119.toNat).length (newslice_115.length - n_119.toNat))).length c117) (by kernel_rfl) (by have := hq121.1; have := hq121.2; simp only [List.length_append, List.length_take, List.length_drop]; congr 1 <;> omega)
            refine andH (Hold.of hS (bks := []) (by kernel_rfl) hD) ?_
            intro hH
            refine take T [8, 9] [] [7, 8] hS (by kernel_rfl) (by kernel_rfl) (by kernel_rfl) hH (listed' := #[true, true, true, true, true, true, true, true, true, true]) (fuel := 0) (sy' := ⟨[(7, V (.slice a116 (newslice_115.take n_119.toNat ++ (newslice_115.take n_119.toNat).take (newslice_115.length - n_119.toNat) ++ newslice_115.drop (n_119.toNat + min (newslice_115.take n_119.toNat).length (newslice_115.length - n_119.toNat))).length c117)), (8, I (IntKind.i64.wrap (n_119 + ((min (newslice_115.take n_119.toNat).length (newslice_115.length - n_119.toNat) : Nat) : Int))))], []⟩) (by kernel_rfl) (by rfl) ?_
            intro a hS
            refine drawnDone (by kernel_rfl) ?_
            clear hD hH
            replace hS := hS.sel [7, 8] [] (sy' := ⟨[(7, V (.slice a116 (newslice_115.take n_119.toNat ++ (newslice_115.take n_119.toNat).take (newslice_115.length - n_119.toNat) ++ newslice_115.drop (n_119.toNat + min (newslice_115.take n_119.toNat).length (newslice_115.length - n_119.toNat))).length c117)), (8, I (IntKind.i64.wrap (n_119 + ((min (newslice_115.take n_119.toNat).length (newslice_115.length - n_119.toNat) : Nat) : Int))))], []⟩) (by kernel_rfl)
            exact ⟨⟨newslice_115.take n_119.toNat ++ (newslice_115.take n_119.toNat).take (newslice_115.length - n_119.toNat) ++ newslice_115.drop (n_119.toNat + min (newslice_115.take n_119.toNat).length (newslice_115.length - n_119.toNat)), IntKind.i64.wrap (n_119 + ((min (newslice_115.take n_119.toNat).length (newslice_115.length - n_119.toNat) : Nat) : Int))⟩, ⟨ρ, _, a116, c117, hm.1, hS.sel [7, 8] [] (by kernel_rfl), hO, h124⟩, hm.2⟩
          · replace hm := hm.2 hb
            refine wexit (by rfl) ?_
            exact ⟨ρ, _, newslice_115, a116, c117, hm, hS.sel [7] [] (by kernel_rfl), hO, h118⟩
      · rintro a w128 ⟨ρ, χ127, newslice_111, a112, c113, hm, hS, hO, h114⟩
        unfold VC76_J1 at hm
        refine regP T hS (sp := []) (ks := [4]) (bs := []) (sy' := ⟨[(4, V (.slice a112 newslice_111.length c113))], []⟩) (by kernel_rfl) ?_
        intro a hS
        refine wret ?_
        exact fin T hS hO (fun c => (bif Nat.beq c 1005 then col1 else c)) rfl (r := [.slice a112 newslice_111.length c113]) (by kernel_rfl) (fun χ' hM hC => ⟨newslice_111, hm, a112, c113, rfl, (OS.out (f := (fun c => (bif Nat.beq c 1005 then col1 else c))) h114 hM hC (by kernel_rfl))⟩)
theorem C76 (k81 : S81) (v : ∀ (x_ : List Int) (count : Int), preRep x_ count → VC76 x_ count (fun r => r = slices_Repeat_int_int x_ count)) : S76 := by
  intro w χ x_ count a1 c1 col1  hp h1
  refine (W76 k81 w χ x_ count a1 c1 col1  _ (v x_ count hp) h1).mono ?_
  rintro _ _ _ _ ⟨r, rfl, h⟩
  exact h
def S45 : Prop := ∀ (w : World) (χ : Nat → Nat) (s_ : Numbering_Size) (order : List Int) (a1 : Option Addr) (c1 : Nat), RS tI w χ a1 order c1 → Ret Try.prog 45 #[.agg #[.int .i64 s_.Ops, .int .i64 s_.States], .slice a1 order.length c1] xnone w χ (fun w χ' v => ∃ (ra1 : Option Addr) (rc1 : Nat), v = .tuple #[.slice ra1 ((places_Truths s_ order).1).length rc1, .bool ((places_Truths s_ order).2)] ∧ RS tBool w χ' ra1 ((places_Truths s_ order).1) rc1)
theorem hb45 : hasBody Try.prog 45 = true := by kernel_rfl
/-- replevin/places.Truths -/
theorem W45 (k21 : S21) (k23 : S23) (k24 : S24) (k68 : S68) (w0 : World) (χ0 : Nat → Nat) (s_ : Numbering_Size) (order : List Int) (a1 : Option Addr) (c1 : Nat) (Q : (List Bool) × Bool → Prop) (hm : VC45 s_ order Q) (h1 : RS tI w0 χ0 a1 order c1) :
    Ret Try.prog 45 #[.agg #[.int .i64 s_.Ops, .int .i64 s_.States], .slice a1 order.length c1] xnone w0 χ0 (fun w χ' v => ∃ r, Q r ∧ ∃ (ra1 : Option Addr) (rc1 : Nat), v = .tuple #[.slice ra1 r.1.length rc1, .bool r.2] ∧ RS tBool w χ' ra1 r.1 rc1) := by
  unfold VC45 at hm
  replace hm := hm (h1.sm (by kernel_rfl))
  refine enter Try.func45 rfl (vals := [.agg #[.int .i64 s_.Ops, .int .i64 s_.States], .slice a1 order.length c1]) (by kernel_rfl) ?_
  intro ρ a hS hO hM
  replace h1 := h1.m0 hM
  clear hM
  refine regM T hS (sp := []) (ks := [1, 2]) (bs := [3]) (sy' := ⟨[(1, V (.slice a1 order.length c1)), (2, Pt 3 0)], [(3, (23, [I s_.Ops, I s_.States]))]⟩) (by kernel_rfl) ?_
  intro ρ a w159 χ160 hS hE hr
  replace hO := hO.mv hE rfl rfl
  replace h1 := h1.mv hE rfl
  clear hE hr
  refine wseq ?_
  refine regO ?_
  refine opsP T hS 1 (sp := []) (ks := [1, 2, 9]) (bs := [3]) (sy' := ⟨[(1, V (.slice a1 order.length c1)), (2, Pt 3 0), (9, V (.agg #[.int .i64 s_.Ops, .int .i64 s_.States]))], [(3, (23, [I s_.Ops, I s_.States]))]⟩) (by kernel_rfl) ?_
  intro a hS
  refine op1 (call hS (by kernel_rfl) (by kernel_rfl) hb21 (by kernel_rfl) (fun _ _ => rfl) (k21 _ _ s_) ?_)
  intro v101 a w102 χ103 hE hp hS
  replace hO := hO.mv hE rfl rfl
  replace h1 := h1.mv hE rfl
  clear hE
  obtain ⟨r104, hr⟩ : ∃ r, numbering_Check s_ = r := ⟨_, rfl⟩
  replace hm := hm r104 hr
  rw [hr] at hp
  clear hr
  subst hp
  refine endP T hS (sp := [12]) (ks := [1, 2, 18]) (bs := [3]) (sy' := ⟨[(1, V (.slice a1 order.length c1)), (2, Pt 3 0), (18, B ((r104 != 0) || (((order.length : Nat) : Int) != s_.Ops)))], [(3, (23, [I s_.Ops, I s_.States]))]⟩) (by kernel_rfl) ?_
  intro a hS
  refine wcond hS (b := ((r104 != 0) || (((order.length : Nat) : Int) != s_.Ops))) (by kernel_rfl) (fun hb => ?_) (fun hb => ?_)
  · replace hm := hm.1 hb
    refine regP T hS (sp := []) (ks := [4, 5]) (bs := []) (sy' := ⟨[(4, V (.slice none 0 0)), (5, B false)], []⟩) (by kernel_rfl) ?_
    intro a hS
    refine wret ?_
    exact fin T hS hO (fun c => c) rfl (r := [.slice none 0 0, .bool false]) (by kernel_rfl) (fun χ' hM hC => ⟨([], false), hm, none, 0, rfl, RS.empty _ _ _⟩)
  · replace hm := hm.2 hb
    refine wskip ?_
    refine regO ?_
    refine opsP T hS 1 (sp := []) (ks := [1, 2, 19]) (bs := [3]) (sy' := ⟨[(1, V (.slice a1 order.length c1)), (2, Pt 3 0), (19, V (.agg #[.int .i64 s_.Ops, .int .i64 s_.States]))], [(3, (23, [I s_.Ops, I s_.States]))]⟩) (by kernel_rfl) ?_
    intro a hS
    refine op1 (call hS (by kernel_rfl) (by kernel_rfl) hb23 (by kernel_rfl) (fun _ _ => rfl) (k23 _ _ s_) ?_)
    intro v105 a w106 χ107 hE hp hS
    replace hO := hO.mv hE rfl rfl
    replace h1 := h1.mv hE rfl
    clear hE
    obtain ⟨r108, hr⟩ : ∃ r, numbering_Vars s_ = r := ⟨_, rfl⟩
    replace hm := hm r108 hr
    rw [hr] at hp
    clear hr
    subst hp
    obtain ⟨hq, hm⟩ := hm
    refine op1 (make (E := 4) (kl := .i64) (kc := .i64) (col := 1005) (T := tBool) T false hS (by kernel_rfl) (by kernel_rfl) (by kernel_rfl) (by kernel_rfl) (by kernel_rfl) (by kernel_rfl) hq.1 hq.2.1 (by have := hq.2.2; simp only [tI, tInt, tBool, tStr, tSlice]; omega) (by have := hq.2.2; omega) (fun _ _ => rfl) ?_)
    intro b109 a w110 χ111 hE h112 hN hS
    clear hq hN
    replace hO := hO.mv hE rfl rfl
    replace h1 := h1.mv hE rfl
    clear hE
    replace hS := hS.conv (t := 21) (y := .slice (some ⟨b109, 0, none⟩) (List.replicate r108.toNat (false : Bool)).length r108.toNat) (by kernel_rfl) (by rw [List.length_replicate])
    refine endP T hS (sp := []) (ks := [1, 2, 6]) (bs := [3]) (sy' := ⟨[(1, V (.slice a1 order.length c1)), (2, Pt 3 0), (6, V (.slice (some ⟨b109, 0, none⟩) (List.replicate r108.toNat (false : Bool)).length r108.toNat))], [(3, (23, [I s_.Ops, I s_.States]))]⟩) (by kernel_rfl) ?_
    intro a hS
    refine wcut (fun a w => ∃ (ρ : Nat → Nat) (χ : Nat → Nat) (m_113 : List Bool) (a114 : Option Addr) (c115 : Nat), VC45_J1 Q m_113 ∧ St Try.f45.ntmps ⟨[(6, V (.slice a114 m_113.length c115))], []⟩ ρ a w χ ∧ Old w0 χ0 w χ ∧ OS tBool 4 w χ 1005 a114 m_113 c115) ?_ ?_
    · refine regP T hS (sp := []) (ks := [1, 2, 6, 22, 23, 24]) (bs := [3]) (sy' := ⟨[(1, V (.slice a1 order.length c1)), (2, Pt 3 0), (6, V (.slice (some ⟨b109, 0, none⟩) (List.replicate r108.toNat (false : Bool)).length r108.toNat)), (22, V (.slice a1 order.length c1)), (23, I ((order.length : Nat) : Int)), (24, I 0)], [(3, (23, [I s_.Ops, I s_.States]))]⟩) (by kernel_rfl) ?_
      intro a hS
      refine wblock ?_
      obtain ⟨I1, μ1, hm0, hm⟩ := hm
      refine wloop (σ := (List Bool) × Int) (fun s a w => ∃ (ρ : Nat → Nat) (χ : Nat → Nat) (a121 : Option Addr) (c122 : Nat), I1 s.1 s.2 ∧ St Try.f45.ntmps ⟨[(1, V (.slice a1 order.length c1)), (2, Pt 3 0), (6, V (.slice a121 s.1.length c122)), (22, V (.slice a1 order.length c1)), (23, I ((order.length : Nat) : Int)), (24, I s.2)], [(3, (23, [I s_.Ops, I s_.States]))]⟩ ρ a w χ ∧ Old w0 χ0 w χ ∧ RS tI w χ a1 order c1 ∧ OS tBool 4 w χ 1005 a121 s.1 c122 ∧ RS tI w χ a1 order c1) (fun s => μ1 s.1 s.2) (⟨List.replicate r108.toNat (false : Bool), 0⟩) ?_ ?_
      · exact ⟨ρ, _, (some ⟨b109, 0, none⟩), r108.toNat, hm0, hS.sel [1, 2, 6, 22, 23, 24] [3] (by kernel_rfl), hO, h1, h112, h1⟩
      · rintro ⟨m_120, x_125⟩ a w156 ⟨ρ, χ155, a121, c122, hI, hS, hO, h119, h123, h124⟩
        replace hm := hm m_120 x_125 hI
        clear hI hm0
        refine regP T hS (sp := []) (ks := [1, 2, 6, 22, 23, 24, 25]) (bs := [3]) (sy' := ⟨[(1, V (.slice a1 order.length c1)), (2, Pt 3 0), (6, V (.slice a121 m_120.length c122)), (22, V (.slice a1 order.length c1)), (23, I ((order.length : Nat) : Int)), (24, I x_125), (25, B (decide (x_125 < ((order.length : Nat) : Int))))], [(3, (23, [I s_.Ops, I s_.States]))]⟩) (by kernel_rfl) ?_
        intro a hS
        refine wseq ?_
        refine wcond hS (b := decide (x_125 < ((order.length : Nat) : Int))) (by kernel_rfl) (fun hb => ?_) (fun hb => ?_)
        · replace hm := hm.1 hb
          refine wskip ?_
          refine wseq ?_
          refine wblock ?_
          refine regO ?_
          refine opsP T hS 1 (sp := []) (ks := [1, 2, 6, 22, 23, 24, 26]) (bs := [3]) (sy' := ⟨[(1, V (.slice a1 order.length c1)), (2, Pt 3 0), (6, V (.slice a121 m_120.length c122)), (22, V (.slice a1 order.length c1)), (23, I ((order.length : Nat) : Int)), (24, I x_125), (26, I x_125)], [(3, (23, [I s_.Ops, I s_.States]))]⟩) (by kernel_rfl) ?_
          intro a hS
          obtain ⟨hq, hm⟩ := hm
          refine op1 (index (e := 3) (k := .i64) T hS (by kernel_rfl) (by kernel_rfl) (by kernel_rfl) (by kernel_rfl) h124 (by kernel_rfl) (by kernel_rfl) hq.1 hq.2 ?_)
          intro A126 a h127 hS
          clear hq
          refine op1 (load1 T hS (by kernel_rfl) (by kernel_rfl) (by kernel_rfl) h127 rfl (by kernel_rfl) ?_)
          intro v128 a hv hS
          cases hv
          refine endP T hS (sp := []) (ks := [1, 2, 6, 7, 8, 22, 23, 24]) (bs := [3]) (sy' := ⟨[(1, V (.slice a1 order.length c1)), (2, Pt 3 0), (6, V (.slice a121 m_120.length c122)), (7, I x_125), (8, I (gi order x_125)), (22, V (.slice a1 order.length c1)), (23, I ((order.length : Nat) : Int)), (24, I x_125)], [(3, (23, [I s_.Ops, I s_.States]))]⟩) (by kernel_rfl) ?_
          intro a hS
          refine wseq ?_
          refine wcut (fun a w => ∃ (ρ : Nat → Nat) (χ : Nat → Nat) (m_130 : List Bool) (x_135 : Bool) (a131 : Option Addr) (c132 : Nat), VC45_J2 s_ order Q I1 μ1 m_120 x_125 m_130 x_135 ∧ St Try.f45.ntmps ⟨[(1, V (.slice a1 order.length c1)), (2, Pt 3 0), (6, V (.slice a131 m_130.length c132)), (7, I x_125), (8, I (gi order x_125)), (22, V (.slice a1 order.length c1)), (23, I ((order.length : Nat) : Int)), (24, I x_125), (43, B x_135)], [(3, (23, [I s_.Ops, I s_.States]))]⟩ ρ a w χ ∧ Old w0 χ0 w χ ∧ RS tI w χ a1 order c1 ∧ OS tBool 4 w χ 1005 a131 m_130 c132 ∧ RS tI w χ a1 order c1) ?_ ?_
          · refine region ?_
            refine opsP T hS 9 (sp := [31]) (ks := [1, 2, 6, 7, 8, 22, 23, 24, 37]) (bs := [3]) (sy' := ⟨[(1, V (.slice a1 order.length c1)), (2, Pt 3 0), (6, V (.slice a121 m_120.length c122)), (7, I x_125), (8, I (gi order x_125)), (22, V (.slice a1 order.length c1)), (23, I ((order.length : Nat) : Int)), (24, I x_125), (37, B ((decide ((gi order x_125) < 0)) || (decide ((gi order x_125) ≥ s_.Ops))))], [(3, (23, [I s_.Ops, I s_.States]))]⟩) (by kernel_rfl) ?_
            intro a hS
            rcases Bool.eq_false_or_eq_true ((decide ((gi order x_125) < 0)) || (decide ((gi order x_125) ≥ s_.Ops))) with hb | hb
            · replace hS := hS.lit (t := 37) (by kernel_rfl) hb
              replace hm := hm.1 hb
              refine endP T hS (sp := []) (ks := [1, 2, 6, 7, 8, 22, 23, 24, 43]) (bs := [3]) (sy' := ⟨[(1, V (.slice a1 order.length c1)), (2, Pt 3 0), (6, V (.slice a121 m_120.length c122)), (7, I x_125), (8, I (gi order x_125)), (22, V (.slice a1 order.length c1)), (23, I ((order.length : Nat) : Int)), (24, I x_125), (43, B true)], [(3, (23, [I s_.Ops, I s_.States]))]⟩) (by kernel_rfl) ?_
              intro a hS
              exact ⟨ρ, _, m_120, true, a121, c122, hm, hS.sel [1, 2, 6, 7, 8, 22, 23, 24, 43] [3] (by kernel_rfl), hO, h119, h123, h124⟩
            · replace hS := hS.lit (t := 37) (by kernel_rfl) hb
              replace hm := hm.2 hb
              refine opsP T hS 2 (sp := []) (ks := [1, 2, 6, 7, 8, 22, 23, 24, 37, 38, 39]) (bs := [3]) (sy' := ⟨[(1, V (.slice a1 order.length c1)), (2, Pt 3 0), (6, V (.slice a121 m_120.length c122)), (7, I x_125), (8, I (gi order x_125)), (22, V (.slice a1 order.length c1)), (23, I ((order.length : Nat) : Int)), (24, I x_125), (37, B false), (38, V (.slice a1 order.length c1)), (39, I x_125)], [(3, (23, [I s_.Ops, I s_.States]))]⟩) (by kernel_rfl) ?_
              intro a hS
              obtain ⟨hq, hm⟩ := hm
              refine op1 (slice0 (E := 3) (kh := .i64) T hS (by kernel_rfl) (by kernel_rfl) (by kernel_rfl) (by kernel_rfl) h119 (by kernel_rfl) (by kernel_rfl) hq.1 hq.2 ?_)
              intro a146 c147 a h148 hS
              clear hq
              refine opsP T hS 1 (sp := []) (ks := [1, 2, 6, 7, 8, 22, 23, 24, 37, 38, 39, 40, 41]) (bs := [3]) (sy' := ⟨[(1, V (.slice a1 order.length c1)), (2, Pt 3 0), (6, V (.slice a121 m_120.length c122)), (7, I x_125), (8, I (gi order x_125)), (22, V (.slice a1 order.length c1)), (23, I ((order.length : Nat) : Int)), (24, I x_125), (37, B false), (38, V (.slice a1 order.length c1)), (39, I x_125), (40, V (.slice a146 (order.take x_125.toNat).length c147)), (41, I (gi order x_125))], [(3, (23, [I s_.Ops, I s_.States]))]⟩) (by kernel_rfl) ?_
              intro a hS
              refine op1 (call hS (by kernel_rfl) (by kernel_rfl) hb68 (by kernel_rfl) (fun _ _ => rfl) (k68 _ _ (order.take x_125.toNat) (gi order x_125) a146 c147 h148) ?_)
              intro v149 a w150 χ151 hE hp hS
              replace hO := hO.mv hE rfl rfl
              replace h119 := h119.mv hE rfl
              replace h123 := h123.mv hE rfl rfl
              replace h124 := h124.mv hE rfl
              replace h148 := h148.mv hE rfl
              clear hE
              obtain ⟨r152, hr⟩ : ∃ r, slices_Contains_int_int (order.take x_125.toNat) (gi order x_125) = r := ⟨_, rfl⟩
              replace hm := hm r152 hr
              rw [hr] at hp
              clear hr
              subst hp
              refine endP T hS (sp := []) (ks := [1, 2, 6, 7, 8, 22, 23, 24, 38, 39, 40, 41, 42, 43]) (bs := [3]) (sy' := ⟨[(1, V (.slice a1 order.length c1)), (2, Pt 3 0), (6, V (.slice a121 m_120.length c122)), (7, I x_125), (8, I (gi order x_125)), (22, V (.slice a1 order.length c1)), (23, I ((order.length : Nat) : Int)), (24, I x_125), (38, V (.slice a1 order.length c1)), (39, I x_125), (40, V (.slice a146 (order.take x_125.toNat).length c147)), (41, I (gi order x_125)), (42, B r152), (43, B r152)], [(3, (23, [I s_.Ops, I s_.States]))]⟩) (by kernel_rfl) ?_
              intro a hS
              exact ⟨ρ, _, m_120, r152, a121, c122, hm, hS.sel [1, 2, 6, 7, 8, 22, 23, 24, 43] [3] (by kernel_rfl), hO, h119, h123, h124⟩
          · rintro a w154 ⟨ρ, χ153, m_130, x_135, a131, c132, hm, hS, hO, h129, h133, h134⟩
            unfold VC45_J2 at hm
            refine wcond hS (b := x_135) (by kernel_rfl) (fun hb => ?_) (fun hb => ?_)
            · replace hm := hm.1 hb
              refine regP T hS (sp := []) (ks := [4, 5]) (bs := []) (sy' := ⟨[(4, V (.slice none 0 0)), (5, B false)], []⟩) (by kernel_rfl) ?_
              intro a hS
              refine wret ?_
              exact fin T hS hO (fun c => c) rfl (r := [.slice none 0 0, .bool false]) (by kernel_rfl) (fun χ' hM hC => ⟨([], false), hm, none, 0, rfl, RS.empty _ _ _⟩)
            · replace hm := hm.2 hb
              refine wskip ?_
              refine region ?_
              refine opsP T hS 5 (sp := []) (ks := [1, 2, 6, 22, 23, 24, 44, 45, 48]) (bs := [3]) (sy' := ⟨[(1, V (.slice a1 order.length c1)), (2, Pt 3 0), (6, V (.slice a131 m_130.length c132)), (22, V (.slice a1 order.length c1)), (23, I ((order.length : Nat) : Int)), (24, I x_125), (44, V (.slice a131 m_130.length c132)), (45, V (.agg #[.int .i64 s_.Ops, .int .i64 s_.States])), (48, V (.agg #[.int .i64 1, .int .i64 (gi order x_125), .int .i64 x_125]))], [(3, (23, [I s_.Ops, I s_.States]))]⟩) (by kernel_rfl) ?_
              intro a hS
              refine op1 (call hS (by kernel_rfl) (by kernel_rfl) hb24 (by kernel_rfl) (fun _ _ => rfl) (k24 _ _ s_ (⟨1, gi order x_125, x_125⟩ : Numbering_Name)) ?_)
              intro v136 a w137 χ138 hE hp hS
              replace hO := hO.mv hE rfl rfl
              replace h129 := h129.mv hE rfl
              replace h133 := h133.mv hE rfl rfl
              replace h134 := h134.mv hE rfl
              clear hE
              obtain ⟨r139, hr⟩ : ∃ r, numbering_Var s_ (⟨1, gi order x_125, x_125⟩ : Numbering_Name) = r := ⟨_, rfl⟩
              replace hm := hm r139 hr
              rw [hr] at hp
              clear hr
              subst hp
              refine opsP T hS 1 (sp := []) (ks := [1, 2, 6, 22, 23, 24, 44, 50]) (bs := [3]) (sy' := ⟨[(1, V (.slice a1 order.length c1)), (2, Pt 3 0), (6, V (.slice a131 m_130.length c132)), (22, V (.slice a1 order.length c1)), (23, I ((order.length : Nat) : Int)), (24, I x_125), (44, V (.slice a131 m_130.length c132)), (50, I (IntKind.i64.wrap (r139 - 1)))], [(3, (23, [I s_.Ops, I s_.States]))]⟩) (by kernel_rfl) ?_
              intro a hS
              obtain ⟨hq143, hm⟩ := hm
              refine op1 (indexX (E := 4) (k := .i64) T hS (by kernel_rfl) (by kernel_rfl) (by kernel_rfl) (by kernel_rfl) h133 (by kernel_rfl) (by kernel_rfl) hq143.1 hq143.2 ?_)
              intro A140 a h142 h141 hS
              refine op1 (storeO (x := true) (v := B true) (i := (IntKind.i64.wrap (r139 - 1)).toNat) (E := 4) (xs := m_130) T hS (by kernel_rfl) (by kernel_rfl) (by kernel_rfl) (by kernel_rfl) h133 h142 (by have := hq143.1; have := hq143.2; omega) (by kernel_rfl) (fun _ _ _ => rfl) ?_)
              intro a w144 hE h145 hS
              clear h133 h142 h141 hq143
              replace hO := hO.mv hE rfl rfl
              replace h129 := h129.mv hE rfl
              replace h134 := h134.mv hE rfl
              clear hE
              replace hS := hS.conv (t := 6) (y := .slice a131 (m_130.set (IntKind.i64.wrap (r139 - 1)).toNat true).length c132) (by kernel_rfl) (by rw [List.length_set])
              replace hS := hS.conv (t := 44) (y := .slice a131 (m_130.set (IntKind.i64.wrap (r139 - 1)).toNat true).length c132) (by kernel_rfl) (by rw [List.length_set])
              refine doneK ?_
              refine region (endP T hS (sp := []) (ks := [1, 2, 6, 22, 23, 24]) (bs := [3]) (sy' := ⟨[(1, V (.slice a1 order.length c1)), (2, Pt 3 0), (6, V (.slice a131 (m_130.set (IntKind.i64.wrap (r139 - 1)).toNat true).length c132)), (22, V (.slice a1 order.length c1)), (23, I ((order.length : Nat) : Int)), (24, I (IntKind.i64.wrap (x_125 + 1)))], [(3, (23, [I s_.Ops, I s_.States]))]⟩) (by kernel_rfl) ?_)
              intro a hS
              exact ⟨⟨(m_130.set (IntKind.i64.wrap (r139 - 1)).toNat true), IntKind.i64.wrap (x_125 + 1)⟩, ⟨ρ, _, a131, c132, hm.1, hS.sel [1, 2, 6, 22, 23, 24] [3] (by kernel_rfl), hO, h129, h145, h134⟩, hm.2⟩
        · replace hm := hm.2 hb
          refine wexit (by rfl) ?_
          exact ⟨ρ, _, m_120, a121, c122, hm, hS.sel [6] [] (by kernel_rfl), hO, h123⟩
    · rintro a w158 ⟨ρ, χ157, m_113, a114, c115, hm, hS, hO, h116⟩
      unfold VC45_J1 at hm
      refine regP T hS (sp := []) (ks := [4, 5]) (bs := []) (sy' := ⟨[(4, V (.slice a114 m_113.length c115)), (5, B true)], []⟩) (by kernel_rfl) ?_
      intro a hS
      refine wret ?_
      obtain ⟨χ117, hE, hF⟩ := h116.freeze (by decide)
      replace hS := hS.ev hE (xone_box (by kernel_rfl))
      replace hO := hO.mv hE rfl rfl
      have h118 := hF; clear hE hF
      exact fin T hS hO (fun c => c) rfl (r := [.slice a114 m_113.length c115, .bool true]) (by kernel_rfl) (fun χ' hM hC => ⟨(m_113, true), hm, a114, c115, rfl, h118.m0 hM⟩)
theorem C45 (k21 : S21) (k23 : S23) (k24 : S24) (k68 : S68) (v : ∀ (s_ : Numbering_Size) (order : List Int), VC45 s_ order (fun r => r = places_Truths s_ order)) : S45 := by
  intro w χ s_ order a1 c1   h1
  refine (W45 k21 k23 k24 k68 w χ s_ order a1 c1   _ (v s_ order) h1).mono ?_
  rintro _ _ _ _ ⟨r, rfl, h⟩
  exact h
def S53 : Prop := ∀ (w : World) (χ : Nat → Nat) (P : Int) (O : Int) (S : List Int) (a1 : Option Addr) (c1 : Nat), RS tI w χ a1 S c1 → Ret Try.prog 53 #[.int .i64 P, .int .i64 O, .slice a1 S.length c1] xnone w χ (fun w χ' v => ∃ (ra1 : Option Addr) (rc1 : Nat), v = .tuple #[.slice ra1 ((ref32_Truths P O S).1).length rc1, .bool ((ref32_Truths P O S).2)] ∧ RS tBool w χ' ra1 ((ref32_Truths P O S).1) rc1)
theorem hb53 : hasBody Try.prog 53 = true := by kernel_rfl
/-- replevin/replevinref32.Truths -/
theorem W53 (k22 : S22) (w0 : World) (χ0 : Nat → Nat) (P : Int) (O : Int) (S : List Int) (a1 : Option Addr) (c1 : Nat) (Q : (List Bool) × Bool → Prop) (hm : VC53 P O S Q) (h1 : RS tI w0 χ0 a1 S c1) :
    Ret Try.prog 53 #[.int .i64 P, .int .i64 O, .slice a1 S.length c1] xnone w0 χ0 (fun w χ' v => ∃ r, Q r ∧ ∃ (ra1 : Option Addr) (rc1 : Nat), v = .tuple #[.slice ra1 r.1.length rc1, .bool r.2] ∧ RS tBool w χ' ra1 r.1 rc1) := by
  unfold VC53 at hm
  replace hm := hm (h1.sm (by kernel_rfl))
  refine enter Try.func53 rfl (vals := [.int .i64 P, .int .i64 O, .slice a1 S.length c1]) (by kernel_rfl) ?_
  intro ρ a hS hO hM
  replace h1 := h1.m0 hM
  clear hM
  refine regP T hS (sp := []) (ks := [0, 1, 2]) (bs := []) (sy' := ⟨[(0, I P), (1, I O), (2, V (.slice a1 S.length c1))], []⟩) (by kernel_rfl) ?_
  intro a hS
  refine wseq ?_
  refine regO ?_
  refine opsP T hS 2 (sp := []) (ks := [0, 1, 2, 14, 15]) (bs := []) (sy' := ⟨[(0, I P), (1, I O), (2, V (.slice a1 S.length c1)), (14, I P), (15, I O)], []⟩) (by kernel_rfl) ?_
  intro a hS
  refine op1 (call hS (by kernel_rfl) (by kernel_rfl) hb22 (by kernel_rfl) (fun _ _ => rfl) (k22 _ _ P O) ?_)
  intro v101 a w102 χ103 hE hp hS
  replace hO := hO.mv hE rfl rfl
  replace h1 := h1.mv hE rfl
  clear hE
  obtain ⟨r104, hr⟩ : ∃ r, ref31_Check P O = r := ⟨_, rfl⟩
  replace hm := hm r104 hr
  rw [hr] at hp
  clear hr
  subst hp
  refine endP T hS (sp := [18]) (ks := [0, 1, 2, 23]) (bs := []) (sy' := ⟨[(0, I P), (1, I O), (2, V (.slice a1 S.length c1)), (23, B ((r104 != 0) || (((S.length : Nat) : Int) != P)))], []⟩) (by kernel_rfl) ?_
  intro a hS
  refine wcond hS (b := ((r104 != 0) || (((S.length : Nat) : Int) != P))) (by kernel_rfl) (fun hb => ?_) (fun hb => ?_)
  · replace hm := hm.1 hb
    refine regP T hS (sp := []) (ks := [6, 7]) (bs := []) (sy' := ⟨[(6, V (.slice none 0 0)), (7, B false)], []⟩) (by kernel_rfl) ?_
    intro a hS
    refine wret ?_
    exact fin T hS hO (fun c => c) rfl (r := [.slice none 0 0, .bool false]) (by kernel_rfl) (fun χ' hM hC => ⟨([], false), hm, none, 0, rfl, RS.empty _ _ _⟩)
  · replace hm := hm.2 hb
    refine wskip ?_
    refine regP T hS (sp := []) (ks := [0, 1, 2, 8]) (bs := []) (sy' := ⟨[(0, I P), (1, I O), (2, V (.slice a1 S.length c1)), (8, V (.slice none 0 0))], []⟩) (by kernel_rfl) ?_
    intro a hS
    refine wcut (fun a w => ∃ (ρ : Nat → Nat) (χ : Nat → Nat) (r_105 : List Bool) (a106 : Option Addr) (c107 : Nat), VC53_J1 P O Q r_105 ∧ St Try.f53.ntmps ⟨[(0, I P), (1, I O), (8, V (.slice a106 r_105.length c107))], []⟩ ρ a w χ ∧ Old w0 χ0 w χ ∧ OS tBool 4 w χ 1007 a106 r_105 c107) ?_ ?_
    · refine regP T hS (sp := []) (ks := [0, 1, 2, 8, 9]) (bs := []) (sy' := ⟨[(0, I P), (1, I O), (2, V (.slice a1 S.length c1)), (8, V (.slice none 0 0)), (9, I 0)], []⟩) (by kernel_rfl) ?_
      intro a hS
      refine wblock ?_
      obtain ⟨I2, μ2, hm0, hm⟩ := hm
      refine wloop (σ := (List Bool) × Int) (fun s a w => ∃ (ρ : Nat → Nat) (χ : Nat → Nat) (a135 : Option Addr) (c136 : Nat), I2 s.1 s.2 ∧ St Try.f53.ntmps ⟨[(0, I P), (1, I O), (2, V (.slice a1 S.length c1)), (8, V (.slice a135 s.1.length c136)), (9, I s.2)], []⟩ ρ a w χ ∧ Old w0 χ0 w χ ∧ RS tI w χ a1 S c1 ∧ OS tBool 4 w χ 1007 a135 s.1 c136) (fun s => μ2 s.1 s.2) (⟨[], 0⟩) ?_ ?_
      · exact ⟨ρ, _, none, 0, hm0, hS.sel [0, 1, 2, 8, 9] [] (by kernel_rfl), hO, h1, (OS.nil _ _ _ _ _)⟩
      · rintro ⟨r_134, r_138⟩ a w192 ⟨ρ, χ191, a135, c136, hI, hS, hO, h133, h137⟩
        replace hm := hm r_134 r_138 hI
        clear hI hm0
        refine wseq ?_
        refine regP T hS (sp := []) (ks := [0, 1, 2, 8, 9, 26]) (bs := []) (sy' := ⟨[(0, I P), (1, I O), (2, V (.slice a1 S.length c1)), (8, V (.slice a135 r_134.length c136)), (9, I r_138), (26, B (decide (r_138 < P)))], []⟩) (by kernel_rfl) ?_
        intro a hS
        refine wcond hS (b := decide (r_138 < P)) (by kernel_rfl) (fun hb => ?_) (fun hb => ?_)
        · replace hm := hm.1 hb
          refine wskip ?_
          refine wcut (fun a w => ∃ (ρ : Nat → Nat) (χ : Nat → Nat) (r_140 : List Bool) (a141 : Option Addr) (c142 : Nat), VC53_J3 I2 μ2 r_134 r_138 r_140 ∧ St Try.f53.ntmps ⟨[(0, I P), (1, I O), (2, V (.slice a1 S.length c1)), (8, V (.slice a141 r_140.length c142)), (9, I r_138)], []⟩ ρ a w χ ∧ Old w0 χ0 w χ ∧ RS tI w χ a1 S c1 ∧ OS tBool 4 w χ 1007 a141 r_140 c142) ?_ ?_
          · refine wblock ?_
            refine regP T hS (sp := []) (ks := [0, 1, 2, 8, 9, 10]) (bs := []) (sy' := ⟨[(0, I P), (1, I O), (2, V (.slice a1 S.length c1)), (8, V (.slice a135 r_134.length c136)), (9, I r_138), (10, I (-1))], []⟩) (by kernel_rfl) ?_
            intro a hS
            refine wcut (fun a w => ∃ (ρ : Nat → Nat) (χ : Nat → Nat) (r_145 : List Bool) (a_149 : Int) (a146 : Option Addr) (c147 : Nat), VC53_J4 P Q I2 μ2 r_134 r_138 r_145 a_149 ∧ St Try.f53.ntmps ⟨[(0, I P), (1, I O), (2, V (.slice a1 S.length c1)), (8, V (.slice a146 r_145.length c147)), (9, I r_138), (10, I a_149)], []⟩ ρ a w χ ∧ Old w0 χ0 w χ ∧ RS tI w χ a1 S c1 ∧ OS tBool 4 w χ 1007 a146 r_145 c147) ?_ ?_
            · refine regP T hS (sp := []) (ks := [0, 1, 2, 8, 9, 10, 11]) (bs := []) (sy' := ⟨[(0, I P), (1, I O), (2, V (.slice a1 S.length c1)), (8, V (.slice a135 r_134.length c136)), (9, I r_138), (10, I (-1)), (11, I 0)], []⟩) (by kernel_rfl) ?_
              intro a hS
              refine wblock ?_
              obtain ⟨I4, μ4, hm0, hm⟩ := hm
              refine wloop (σ := (List Bool) × Int × Int) (fun s a w => ∃ (ρ : Nat → Nat) (χ : Nat → Nat) (a169 : Option Addr) (c170 : Nat), I4 s.1 s.2.1 s.2.2 ∧ St Try.f53.ntmps ⟨[(0, I P), (1, I O), (2, V (.slice a1 S.length c1)), (8, V (.slice a169 s.1.length c170)), (9, I r_138), (10, I s.2.1), (11, I s.2.2)], []⟩ ρ a w χ ∧ Old w0 χ0 w χ ∧ RS tI w χ a1 S c1 ∧ OS tBool 4 w χ 1007 a169 s.1 c170) (fun s => μ4 s.1 s.2.1 s.2.2) (⟨r_134, (-1), 0⟩) ?_ ?_
              · exact ⟨ρ, _, a135, c136, hm0, hS.sel [0, 1, 2, 8, 9, 10, 11] [] (by kernel_rfl), hO, h133, h137⟩
              · rintro ⟨r_168, a_172, y_173⟩ a w186 ⟨ρ, χ185, a169, c170, hI, hS, hO, h167, h171⟩
                replace hm := hm r_168 a_172 y_173 hI
                clear hI hm0
                refine wseq ?_
                refine regP T hS (sp := []) (ks := [0, 1, 2, 8, 9, 10, 11, 31]) (bs := []) (sy' := ⟨[(0, I P), (1, I O), (2, V (.slice a1 S.length c1)), (8, V (.slice a169 r_168.length c170)), (9, I r_138), (10, I a_172), (11, I y_173), (31, B (decide (y_173 < P)))], []⟩) (by kernel_rfl) ?_
                intro a hS
                refine wcond hS (b := decide (y_173 < P)) (by kernel_rfl) (fun hb => ?_) (fun hb => ?_)
                · replace hm := hm.1 hb
                  refine wskip ?_
                  refine wcut (fun a w => ∃ (ρ : Nat → Nat) (χ : Nat → Nat) (r_175 : List Bool) (a_179 : Int) (a176 : Option Addr) (c177 : Nat), VC53_J5 I4 μ4 r_168 a_172 y_173 r_175 a_179 ∧ St Try.f53.ntmps ⟨[(0, I P), (1, I O), (2, V (.slice a1 S.length c1)), (8, V (.slice a176 r_175.length c177)), (9, I r_138), (10, I a_179), (11, I y_173)], []⟩ ρ a w χ ∧ Old w0 χ0 w χ ∧ RS tI w χ a1 S c1 ∧ OS tBool 4 w χ 1007 a176 r_175 c177) ?_ ?_
                  · refine wblock ?_
                    refine regO ?_
                    refine opsP T hS 2 (sp := []) (ks := [0, 1, 2, 8, 9, 10, 11, 34, 35]) (bs := []) (sy' := ⟨[(0, I P), (1, I O), (2, V (.slice a1 S.length c1)), (8, V (.slice a169 r_168.length c170)), (9, I r_138), (10, I a_172), (11, I y_173), (34, V (.slice a1 S.length c1)), (35, I y_173)], []⟩) (by kernel_rfl) ?_
                    intro a hS
                    obtain ⟨hq, hm⟩ := hm
                    refine op1 (index (e := 3) (k := .i64) T hS (by kernel_rfl) (by kernel_rfl) (by kernel_rfl) (by kernel_rfl) h167 (by kernel_rfl) (by kernel_rfl) hq.1 hq.2 ?_)
                    intro A180 a h181 hS
                    clear hq
                    refine op1 (load1 T hS (by kernel_rfl) (by kernel_rfl) (by kernel_rfl) h181 rfl (by kernel_rfl) ?_)
                    intro v182 a hv hS
                    cases hv
                    refine endP T hS (sp := [40]) (ks := [0, 1, 2, 8, 9, 10, 11, 43]) (bs := []) (sy' := ⟨[(0, I P), (1, I O), (2, V (.slice a1 S.length c1)), (8, V (.slice a169 r_168.length c170)), (9, I r_138), (10, I a_172), (11, I y_173), (43, B (((gi S y_173) == r_138) && (decide (a_172 < 0))))], []⟩) (by kernel_rfl) ?_
                    intro a hS
                    refine wcond hS (b := (((gi S y_173) == r_138) && (decide (a_172 < 0)))) (by kernel_rfl) (fun hb => ?_) (fun hb => ?_)
                    · replace hm := hm.1 hb
                      refine region (endP T hS (sp := []) (ks := [0, 1, 2, 8, 9, 10, 11]) (bs := []) (sy' := ⟨[(0, I P), (1, I O), (2, V (.slice a1 S.length c1)), (8, V (.slice a169 r_168.length c170)), (9, I r_138), (10, I y_173), (11, I y_173)], []⟩) (by kernel_rfl) ?_)
                      intro a hS
                      exact ⟨ρ, _, r_168, y_173, a169, c170, hm, hS.sel [0, 1, 2, 8, 9, 10, 11] [] (by kernel_rfl), hO, h167, h171⟩
                    · replace hm := hm.2 hb
                      refine wskip ?_
                      exact ⟨ρ, _, r_168, a_172, a169, c170, hm, hS.sel [0, 1, 2, 8, 9, 10, 11] [] (by kernel_rfl), hO, h167, h171⟩
                  · rintro a w184 ⟨ρ, χ183, r_175, a_179, a176, c177, hm, hS, hO, h174, h178⟩
                    unfold VC53_J5 at hm
                    refine region (endP T hS (sp := []) (ks := [0, 1, 2, 8, 9, 10, 11]) (bs := []) (sy' := ⟨[(0, I P), (1, I O), (2, V (.slice a1 S.length c1)), (8, V (.slice a176 r_175.length c177)), (9, I r_138), (10, I a_179), (11, I (IntKind.i64.wrap (y_173 + 1)))], []⟩) (by kernel_rfl) ?_)
                    intro a hS
                    exact ⟨⟨r_175, a_179, IntKind.i64.wrap (y_173 + 1)⟩, ⟨ρ, _, a176, c177, hm.1, hS.sel [0, 1, 2, 8, 9, 10, 11] [] (by kernel_rfl), hO, h174, h178⟩, hm.2⟩
                · replace hm := hm.2 hb
                  refine wexit (by rfl) ?_
                  exact ⟨ρ, _, r_168, a_172, a169, c170, hm, hS.sel [0, 1, 2, 8, 9, 10] [] (by kernel_rfl), hO, h167, h171⟩
            · rintro a w188 ⟨ρ, χ187, r_145, a_149, a146, c147, hm, hS, hO, h144, h148⟩
              unfold VC53_J4 at hm
              refine wseq ?_
              refine regP T hS (sp := []) (ks := [0, 1, 2, 8, 9, 10, 46]) (bs := []) (sy' := ⟨[(0, I P), (1, I O), (2, V (.slice a1 S.length c1)), (8, V (.slice a146 r_145.length c147)), (9, I r_138), (10, I a_149), (46, B (decide (a_149 < 0)))], []⟩) (by kernel_rfl) ?_
              intro a hS
              refine wcond hS (b := decide (a_149 < 0)) (by kernel_rfl) (fun hb => ?_) (fun hb => ?_)
              · replace hm := hm.1 hb
                refine regP T hS (sp := []) (ks := [6, 7]) (bs := []) (sy' := ⟨[(6, V (.slice none 0 0)), (7, B false)], []⟩) (by kernel_rfl) ?_
                intro a hS
                refine wret ?_
                exact fin T hS hO (fun c => c) rfl (r := [.slice none 0 0, .bool false]) (by kernel_rfl) (fun χ' hM hC => ⟨([], false), hm, none, 0, rfl, RS.empty _ _ _⟩)
              · replace hm := hm.2 hb
                refine wskip ?_
                refine regP T hS (sp := []) (ks := [0, 1, 2, 8, 9, 10, 12]) (bs := []) (sy' := ⟨[(0, I P), (1, I O), (2, V (.slice a1 S.length c1)), (8, V (.slice a146 r_145.length c147)), (9, I r_138), (10, I a_149), (12, I 0)], []⟩) (by kernel_rfl) ?_
                intro a hS
                refine wblock ?_
                obtain ⟨I3, μ3, hm0, hm⟩ := hm
                refine wloop (σ := (List Bool) × Int) (fun s a w => ∃ (ρ : Nat → Nat) (χ : Nat → Nat) (a152 : Option Addr) (c153 : Nat), I3 s.1 s.2 ∧ St Try.f53.ntmps ⟨[(0, I P), (1, I O), (2, V (.slice a1 S.length c1)), (8, V (.slice a152 s.1.length c153)), (9, I r_138), (10, I a_149), (12, I s.2)], []⟩ ρ a w χ ∧ Old w0 χ0 w χ ∧ RS tI w χ a1 S c1 ∧ OS tBool 4 w χ 1007 a152 s.1 c153) (fun s => μ3 s.1 s.2) (⟨r_145, 0⟩) ?_ ?_
                · exact ⟨ρ, _, a146, c147, hm0, hS.sel [0, 1, 2, 8, 9, 10, 12] [] (by kernel_rfl), hO, h144, h148⟩
                · rintro ⟨r_151, x_155⟩ a w166 ⟨ρ, χ165, a152, c153, hI, hS, hO, h150, h154⟩
                  replace hm := hm r_151 x_155 hI
                  clear hI hm0
                  refine wseq ?_
                  refine regP T hS (sp := []) (ks := [0, 1, 2, 8, 9, 10, 12, 49]) (bs := []) (sy' := ⟨[(0, I P), (1, I O), (2, V (.slice a1 S.length c1)), (8, V (.slice a152 r_151.length c153)), (9, I r_138), (10, I a_149), (12, I x_155), (49, B (decide (x_155 < P)))], []⟩) (by kernel_rfl) ?_
                  intro a hS
                  refine wcond hS (b := decide (x_155 < P)) (by kernel_rfl) (fun hb => ?_) (fun hb => ?_)
                  · replace hm := hm.1 hb
                    refine wskip ?_
                    refine wseq ?_
                    refine wblock ?_
                    refine region ?_
                    refine opsP T hS 4 (sp := []) (ks := [0, 1, 2, 8, 9, 10, 12, 52, 55]) (bs := []) (sy' := ⟨[(0, I P), (1, I O), (2, V (.slice a1 S.length c1)), (8, V (.slice a152 r_151.length c153)), (9, I r_138), (10, I a_149), (12, I x_155), (52, V (.slice a152 r_151.length c153)), (55, B (x_155 == a_149))], []⟩) (by kernel_rfl) ?_
                    intro a hS
                    refine op1 (lit (E := 4) (col := 0) (T := tBool) (vals := [.bool (x_155 == a_149)]) (ys := [(x_155 == a_149)]) T hS (by kernel_rfl) (by kernel_rfl) (by kernel_rfl) (by kernel_rfl) (by exact ⟨rfl, trivial⟩) rfl (by kernel_rfl) (by kernel_rfl) (by kernel_rfl) (by kernel_rfl) ?_)
                    intro b156 a w157 χ158 hE h159 hN hS
                    clear hN
                    replace hO := hO.mv hE rfl rfl
                    replace h150 := h150.mv hE rfl
                    replace h154 := h154.mv hE rfl rfl
                    clear hE
                    replace h159 := h159.rs0
                    obtain ⟨hq, hm⟩ := hm
                    obtain ⟨news, hN⟩ := h159.src
                    refine op1 (append (E := 4) (T := tBool) (col := 1007) (xs := r_151) T hS (by kernel_rfl) (by kernel_rfl) (by kernel_rfl) (by kernel_rfl) h154 hN (by kernel_rfl) (by kernel_rfl) (by kernel_rfl) (by kernel_rfl) hq ?_)
                    intro a163 c164 a w160 χ161 hE h162 hS
                    clear hq hN
                    clear h154
                    replace hO := hO.mv hE rfl rfl
                    replace h150 := h150.mv hE rfl
                    replace h159 := h159.mv hE rfl
                    clear hE
                    refine endP T hS (sp := []) (ks := [0, 1, 2, 8, 9, 10, 12]) (bs := []) (sy' := ⟨[(0, I P), (1, I O), (2, V (.slice a1 S.length c1)), (8, V (.slice a163 (r_151 ++ [(x_155 == a_149)]).length c164)), (9, I r_138), (10, I a_149), (12, I x_155)], []⟩) (by kernel_rfl) ?_
                    intro a hS
                    refine region (endP T hS (sp := []) (ks := [0, 1, 2, 8, 9, 10, 12]) (bs := []) (sy' := ⟨[(0, I P), (1, I O), (2, V (.slice a1 S.length c1)), (8, V (.slice a163 (r_151 ++ [(x_155 == a_149)]).length c164)), (9, I r_138), (10, I a_149), (12, I (IntKind.i64.wrap (x_155 + 1)))], []⟩) (by kernel_rfl) ?_)
                    intro a hS
                    exact ⟨⟨r_151 ++ [(x_155 == a_149)], IntKind.i64.wrap (x_155 + 1)⟩, ⟨ρ, _, a163, c164, hm.1, hS.sel [0, 1, 2, 8, 9, 10, 12] [] (by kernel_rfl), hO, h150, h162⟩, hm.2⟩
                  · replace hm := hm.2 hb
                    refine wexit (by rfl) ?_
                    exact ⟨ρ, _, r_151, a152, c153, hm, hS.sel [0, 1, 2, 8, 9] [] (by kernel_rfl), hO, h150, h154⟩
          · rintro a w190 ⟨ρ, χ189, r_140, a141, c142, hm, hS, hO, h139, h143⟩
            unfold VC53_J3 at hm
            refine region (endP T hS (sp := []) (ks := [0, 1, 2, 8, 9]) (bs := []) (sy' := ⟨[(0, I P), (1, I O), (2, V (.slice a1 S.length c1)), (8, V (.slice a141 r_140.length c142)), (9, I (IntKind.i64.wrap (r_138 + 1)))], []⟩) (by kernel_rfl) ?_)
            intro a hS
            exact ⟨⟨r_140, IntKind.i64.wrap (r_138 + 1)⟩, ⟨ρ, _, a141, c142, hm.1, hS.sel [0, 1, 2, 8, 9] [] (by kernel_rfl), hO, h139, h143⟩, hm.2⟩
        · replace hm := hm.2 hb
          refine wexit (by rfl) ?_
          exact ⟨ρ, _, r_134, a135, c136, hm, hS.sel [0, 1, 8] [] (by kernel_rfl), hO, h137⟩
    · rintro a w194 ⟨ρ, χ193, r_105, a106, c107, hm, hS, hO, h108⟩
      unfold VC53_J1 at hm
      refine wcut (fun a w => ∃ (ρ : Nat → Nat) (χ : Nat → Nat) (r_109 : List Bool) (a110 : Option Addr) (c111 : Nat), VC53_J2 Q r_109 ∧ St Try.f53.ntmps ⟨[(8, V (.slice a110 r_109.length c111))], []⟩ ρ a w χ ∧ Old w0 χ0 w χ ∧ OS tBool 4 w χ 1007 a110 r_109 c111) ?_ ?_
      · refine regP T hS (sp := []) (ks := [0, 1, 8, 13]) (bs := []) (sy' := ⟨[(0, I P), (1, I O), (8, V (.slice a106 r_105.length c107)), (13, I 0)], []⟩) (by kernel_rfl) ?_
        intro a hS
        refine wblock ?_
        obtain ⟨I1, μ1, hm0, hm⟩ := hm
        refine wloop (σ := (List Bool) × Int) (fun s a w => ∃ (ρ : Nat → Nat) (χ : Nat → Nat) (a116 : Option Addr) (c117 : Nat), I1 s.1 s.2 ∧ St Try.f53.ntmps ⟨[(0, I P), (1, I O), (8, V (.slice a116 s.1.length c117)), (13, I s.2)], []⟩ ρ a w χ ∧ Old w0 χ0 w χ ∧ OS tBool 4 w χ 1007 a116 s.1 c117) (fun s => μ1 s.1 s.2) (⟨r_105, 0⟩) ?_ ?_
        · exact ⟨ρ, _, a106, c107, hm0, hS.sel [0, 1, 8, 13] [] (by kernel_rfl), hO, h108⟩
        · rintro ⟨r_115, x_119⟩ a w130 ⟨ρ, χ129, a116, c117, hI, hS, hO, h118⟩
          replace hm := hm r_115 x_119 hI
          clear hI hm0
          refine wseq ?_
          refine regP T hS (sp := []) (ks := [0, 1, 8, 13, 65]) (bs := []) (sy' := ⟨[(0, I P), (1, I O), (8, V (.slice a116 r_115.length c117)), (13, I x_119), (65, B (decide (x_119 < (IntKind.i64.wrap (P + (IntKind.i64.wrap ((IntKind.i64.wrap (P + 1)) * O)))))))], []⟩) (by kernel_rfl) ?_
          intro a hS
          refine wcond hS (b := decide (x_119 < (IntKind.i64.wrap (P + (IntKind.i64.wrap ((IntKind.i64.wrap (P + 1)) * O)))))) (by kernel_rfl) (fun hb => ?_) (fun hb => ?_)
          · replace hm := hm.1 hb
            refine wskip ?_
            refine wseq ?_
            refine wblock ?_
            refine region ?_
            refine opsP T hS 1 (sp := []) (ks := [0, 1, 8, 13, 68]) (bs := []) (sy' := ⟨[(0, I P), (1, I O), (8, V (.slice a116 r_115.length c117)), (13, I x_119), (68, V (.slice a116 r_115.length c117))], []⟩) (by kernel_rfl) ?_
            intro a hS
            refine op1 (lit (E := 4) (col := 0) (T := tBool) (vals := [.bool false]) (ys := [false]) T hS (by kernel_rfl) (by kernel_rfl) (by kernel_rfl) (by kernel_rfl) (by exact ⟨rfl, trivial⟩) rfl (by kernel_rfl) (by kernel_rfl) (by kernel_rfl) (by kernel_rfl) ?_)
            intro b120 a w121 χ122 hE h123 hN hS
            clear hN
            replace hO := hO.mv hE rfl rfl
            replace h118 := h118.mv hE rfl rfl
            clear hE
            replace h123 := h123.rs0
            obtain ⟨hq, hm⟩ := hm
            obtain ⟨news, hN⟩ := h123.src
            refine op1 (append (E := 4) (T := tBool) (col := 1007) (xs := r_115) T hS (by kernel_rfl) (by kernel_rfl) (by kernel_rfl) (by kernel_rfl) h118 hN (by kernel_rfl) (by kernel_rfl) (by kernel_rfl) (by kernel_rfl) hq ?_)
            intro a127 c128 a w124 χ125 hE h126 hS
            clear hq hN
            clear h118
            replace hO := hO.mv hE rfl rfl
            replace h123 := h123.mv hE rfl
            clear hE
            refine endP T hS (sp := []) (ks := [0, 1, 8, 13]) (bs := []) (sy' := ⟨[(0, I P), (1, I O), (8, V (.slice a127 (r_115 ++ [false]).length c128)), (13, I x_119)], []⟩) (by kernel_rfl) ?_
            intro a hS
            refine region (endP T hS (sp := []) (ks := [0, 1, 8, 13]) (bs := []) (sy' := ⟨[(0, I P), (1, I O), (8, V (.slice a127 (r_115 ++ [false]).length c128)), (13, I (IntKind.i64.wrap (x_119 + 1)))], []⟩) (by kernel_rfl) ?_)
            intro a hS
            exact ⟨⟨r_115 ++ [false], IntKind.i64.wrap (x_119 + 1)⟩, ⟨ρ, _, a127, c128, hm.1, hS.sel [0, 1, 8, 13] [] (by kernel_rfl), hO, h126⟩, hm.2⟩
          · replace hm := hm.2 hb
            refine wexit (by rfl) ?_
            exact ⟨ρ, _, r_115, a116, c117, hm, hS.sel [8] [] (by kernel_rfl), hO, h118⟩
      · rintro a w132 ⟨ρ, χ131, r_109, a110, c111, hm, hS, hO, h112⟩
        unfold VC53_J2 at hm
        refine regP T hS (sp := []) (ks := [6, 7]) (bs := []) (sy' := ⟨[(6, V (.slice a110 r_109.length c111)), (7, B true)], []⟩) (by kernel_rfl) ?_
        intro a hS
        refine wret ?_
        obtain ⟨χ113, hE, hF⟩ := h112.freeze (by decide)
        replace hS := hS.ev hE (xone_box (by kernel_rfl))
        replace hO := hO.mv hE rfl rfl
        have h114 := hF; clear hE hF
        exact fin T hS hO (fun c => c) rfl (r := [.slice a110 r_109.length c111, .bool true]) (by kernel_rfl) (fun χ' hM hC => ⟨(r_109, true), hm, a110, c111, rfl, h114.m0 hM⟩)
theorem C53 (k22 : S22) (v : ∀ (P : Int) (O : Int) (S : List Int), VC53 P O S (fun r => r = ref32_Truths P O S)) : S53 := by
  intro w χ P O S a1 c1   h1
  refine (W53 k22 w χ P O S a1 c1   _ (v P O S) h1).mono ?_
  rintro _ _ _ _ ⟨r, rfl, h⟩
  exact h
def S51 : Prop := ∀ (w : World) (χ : Nat → Nat) (s_ : Numbering_Size) (m_ : List Bool) (a1 : Option Addr) (c1 : Nat), RS tBool w χ a1 m_ c1 → Ret Try.prog 51 #[.agg #[.int .i64 s_.Ops, .int .i64 s_.States], .slice a1 m_.length c1] xnone w χ (fun w χ' v => ∃ (ra1 : Option Addr) (rc1 : Nat), v = .tuple #[.slice ra1 ((places_Order s_ m_).1).length rc1, .bool ((places_Order s_ m_).2)] ∧ RS tI w χ' ra1 ((places_Order s_ m_).1) rc1)
theorem hb51 : hasBody Try.prog 51 = true := by kernel_rfl
/-- replevin/places.Order -/
theorem W51 (k21 : S21) (k23 : S23) (k24 : S24) (k76 : S76) (w0 : World) (χ0 : Nat → Nat) (s_ : Numbering_Size) (m_ : List Bool) (a1 : Option Addr) (c1 : Nat) (Q : (List Int) × Bool → Prop) (hm : VC51 s_ m_ Q) (h1 : RS tBool w0 χ0 a1 m_ c1) :
    Ret Try.prog 51 #[.agg #[.int .i64 s_.Ops, .int .i64 s_.States], .slice a1 m_.length c1] xnone w0 χ0 (fun w χ' v => ∃ r, Q r ∧ ∃ (ra1 : Option Addr) (rc1 : Nat), v = .tuple #[.slice ra1 r.1.length rc1, .bool r.2] ∧ RS tI w χ' ra1 r.1 rc1) := by
  unfold VC51 at hm
  replace hm := hm (h1.sm (by kernel_rfl))
  refine enter Try.func51 rfl (vals := [.agg #[.int .i64 s_.Ops, .int .i64 s_.States], .slice a1 m_.length c1]) (by kernel_rfl) ?_
  intro ρ a hS hO hM
  replace h1 := h1.m0 hM
  clear hM
  refine regM T hS (sp := []) (ks := [1, 2]) (bs := [3]) (sy' := ⟨[(1, V (.slice a1 m_.length c1)), (2, Pt 3 0)], [(3, (23, [I s_.Ops, I s_.States]))]⟩) (by kernel_rfl) ?_
  intro ρ a w191 χ192 hS hE hr
  replace hO := hO.mv hE rfl rfl
  replace h1 := h1.mv hE rfl
  clear hE hr
  refine wseq ?_
  refine wcut (fun a w => ∃ (ρ : Nat → Nat) (χ : Nat → Nat) (x_102 : Bool), VC51_J1 s_ m_ Q x_102 ∧ St Try.f51.ntmps ⟨[(1, V (.slice a1 m_.length c1)), (2, Pt 3 0), (19, B x_102)], [(3, (23, [I s_.Ops, I s_.States]))]⟩ ρ a w χ ∧ Old w0 χ0 w χ ∧ RS tBool w χ a1 m_ c1) ?_ ?_
  · refine region ?_
    refine opsP T hS 1 (sp := []) (ks := [1, 2, 10]) (bs := [3]) (sy' := ⟨[(1, V (.slice a1 m_.length c1)), (2, Pt 3 0), (10, V (.agg #[.int .i64 s_.Ops, .int .i64 s_.States]))], [(3, (23, [I s_.Ops, I s_.States]))]⟩) (by kernel_rfl) ?_
    intro a hS
    refine op1 (call hS (by kernel_rfl) (by kernel_rfl) hb21 (by kernel_rfl) (fun _ _ => rfl) (k21 _ _ s_) ?_)
    intro v181 a w182 χ183 hE hp hS
    replace hO := hO.mv hE rfl rfl
    replace h1 := h1.mv hE rfl
    clear hE
    obtain ⟨r184, hr⟩ : ∃ r, numbering_Check s_ = r := ⟨_, rfl⟩
    replace hm := hm r184 hr
    rw [hr] at hp
    clear hr
    subst hp
    refine opsP T hS 2 (sp := []) (ks := [1, 2, 13]) (bs := [3]) (sy' := ⟨[(1, V (.slice a1 m_.length c1)), (2, Pt 3 0), (13, B (r184 != 0))], [(3, (23, [I s_.Ops, I s_.States]))]⟩) (by kernel_rfl) ?_
    intro a hS
    rcases Bool.eq_false_or_eq_true (r184 != 0) with hb | hb
    · replace hS := hS.lit (t := 13) (by kernel_rfl) hb
      replace hm := hm.1 hb
      refine endP T hS (sp := []) (ks := [1, 2, 19]) (bs := [3]) (sy' := ⟨[(1, V (.slice a1 m_.length c1)), (2, Pt 3 0), (19, B true)], [(3, (23, [I s_.Ops, I s_.States]))]⟩) (by kernel_rfl) ?_
      intro a hS
      exact ⟨ρ, _, true, hm, hS.sel [1, 2, 19] [3] (by kernel_rfl), hO, h1⟩
    · replace hS := hS.lit (t := 13) (by kernel_rfl) hb
      replace hm := hm.2 hb
      refine opsP T hS 3 (sp := []) (ks := [1, 2, 13, 15, 16]) (bs := [3]) (sy' := ⟨[(1, V (.slice a1 m_.length c1)), (2, Pt 3 0), (13, B false), (15, I ((m_.length : Nat) : Int)), (16, V (.agg #[.int .i64 s_.Ops, .int .i64 s_.States]))], [(3, (23, [I s_.Ops, I s_.States]))]⟩) (by kernel_rfl) ?_
      intro a hS
      refine op1 (call hS (by kernel_rfl) (by kernel_rfl) hb23 (by kernel_rfl) (fun _ _ => rfl) (k23 _ _ s_) ?_)
      intro v185 a w186 χ187 hE hp hS
      replace hO := hO.mv hE rfl rfl
      replace h1 := h1.mv hE rfl
      clear hE
      obtain ⟨r188, hr⟩ : ∃ r, numbering_Vars s_ = r := ⟨_, rfl⟩
      replace hm := hm r188 hr
      rw [hr] at hp
      clear hr
      subst hp
      refine endP T hS (sp := []) (ks := [1, 2, 19]) (bs := [3]) (sy' := ⟨[(1, V (.slice a1 m_.length c1)), (2, Pt 3 0), (19, B (((m_.length : Nat) : Int) != r188))], [(3, (23, [I s_.Ops, I s_.States]))]⟩) (by kernel_rfl) ?_
      intro a hS
      exact ⟨ρ, _, (((m_.length : Nat) : Int) != r188), hm, hS.sel [1, 2, 19] [3] (by kernel_rfl), hO, h1⟩
  · rintro a w190 ⟨ρ, χ189, x_102, hm, hS, hO, h101⟩
    unfold VC51_J1 at hm
    refine wcond hS (b := x_102) (by kernel_rfl) (fun hb => ?_) (fun hb => ?_)
    · replace hm := hm.1 hb
      refine regP T hS (sp := []) (ks := [4, 5]) (bs := []) (sy' := ⟨[(4, V (.slice none 0 0)), (5, B false)], []⟩) (by kernel_rfl) ?_
      intro a hS
      refine wret ?_
      exact fin T hS hO (fun c => c) rfl (r := [.slice none 0 0, .bool false]) (by kernel_rfl) (fun χ' hM hC => ⟨([], false), hm, none, 0, rfl, RS.empty _ _ _⟩)
    · replace hm := hm.2 hb
      refine wskip ?_
      refine regO ?_
      refine op1 (lit (E := 3) (col := 0) (T := tI) (vals := [.int .i64 (-1)]) (ys := [(-1)]) T hS (by kernel_rfl) (by kernel_rfl) (by kernel_rfl) (by kernel_rfl) (by exact ⟨rfl, trivial⟩) rfl (by kernel_rfl) (by kernel_rfl) (by kernel_rfl) (by kernel_rfl) ?_)
      intro b103 a w104 χ105 hE h106 hN hS
      clear hN
      replace hO := hO.mv hE rfl rfl
      replace h101 := h101.mv hE rfl
      clear hE
      replace h106 := h106.rs0
      refine opsP T hS 2 (sp := []) (ks := [1, 2, 20, 22]) (bs := [3]) (sy' := ⟨[(1, V (.slice a1 m_.length c1)), (2, Pt 3 0), (20, V (.slice (some ⟨b103, 0, none⟩) [(-1)].length 1)), (22, I s_.Ops)], [(3, (23, [I s_.Ops, I s_.States]))]⟩) (by kernel_rfl) ?_
      intro a hS
      obtain ⟨hq, hm⟩ := hm
      refine op1 (call hS (by kernel_rfl) (by kernel_rfl) hb76 (by kernel_rfl) (fun _ _ => rfl) (k76 _ _ [(-1)] s_.Ops (some ⟨b103, 0, none⟩) 1 1005 hq h106) ?_)
      intro v107 a w108 χ109 hE hp hS
      clear hq
      replace hO := hO.mv hE rfl rfl
      replace h101 := h101.mv hE rfl
      replace h106 := h106.mv hE rfl
      clear hE
      obtain ⟨a111, c112, hp, h113⟩ := hp
      obtain ⟨r110, hr⟩ : ∃ r, slices_Repeat_int_int [(-1)] s_.Ops = r := ⟨_, rfl⟩
      replace hm := hm r110 hr
      rw [hr] at hp h113
      clear hr
      subst hp
      replace hm := hm (h113.sm (by kernel_rfl))
      refine endP T hS (sp := []) (ks := [1, 2, 6]) (bs := [3]) (sy' := ⟨[(1, V (.slice a1 m_.length c1)), (2, Pt 3 0), (6, V (.slice a111 r110.length c112))], [(3, (23, [I s_.Ops, I s_.States]))]⟩) (by kernel_rfl) ?_
      intro a hS
      refine wcut (fun a w => ∃ (ρ : Nat → Nat) (χ : Nat → Nat) (out_114 : List Int) (a115 : Option Addr) (c116 : Nat), VC51_J2 Q out_114 ∧ St Try.f51.ntmps ⟨[(6, V (.slice a115 out_114.length c116))], []⟩ ρ a w χ ∧ Old w0 χ0 w χ ∧ OS tI 3 w χ 1005 a115 out_114 c116) ?_ ?_
      · refine regP T hS (sp := []) (ks := [1, 2, 6, 25, 26]) (bs := [3]) (sy' := ⟨[(1, V (.slice a1 m_.length c1)), (2, Pt 3 0), (6, V (.slice a111 r110.length c112)), (25, I s_.Ops), (26, I 0)], [(3, (23, [I s_.Ops, I s_.States]))]⟩) (by kernel_rfl) ?_
        intro a hS
        refine wblock ?_
        obtain ⟨I1, μ1, hm0, hm⟩ := hm
        refine wloop (σ := (List Int) × Int) (fun s a w => ∃ (ρ : Nat → Nat) (χ : Nat → Nat) (a122 : Option Addr) (c123 : Nat), I1 s.1 s.2 ∧ St Try.f51.ntmps ⟨[(1, V (.slice a1 m_.length c1)), (2, Pt 3 0), (6, V (.slice a122 s.1.length c123)), (25, I s_.Ops), (26, I s.2)], [(3, (23, [I s_.Ops, I s_.States]))]⟩ ρ a w χ ∧ Old w0 χ0 w χ ∧ RS tBool w χ a1 m_ c1 ∧ OS tI 3 w χ 1005 a122 s.1 c123) (fun s => μ1 s.1 s.2) (⟨r110, 0⟩) ?_ ?_
        · exact ⟨ρ, _, a111, c112, hm0, hS.sel [1, 2, 6, 25, 26] [3] (by kernel_rfl), hO, h101, h113⟩
        · rintro ⟨out_121, x_125⟩ a w178 ⟨ρ, χ177, a122, c123, hI, hS, hO, h120, h124⟩
          replace hm := hm out_121 x_125 hI
          clear hI hm0
          refine regP T hS (sp := []) (ks := [1, 2, 6, 25, 26, 27]) (bs := [3]) (sy' := ⟨[(1, V (.slice a1 m_.length c1)), (2, Pt 3 0), (6, V (.slice a122 out_121.length c123)), (25, I s_.Ops), (26, I x_125), (27, B (decide (x_125 < s_.Ops)))], [(3, (23, [I s_.Ops, I s_.States]))]⟩) (by kernel_rfl) ?_
          intro a hS
          refine wseq ?_
          refine wcond hS (b := decide (x_125 < s_.Ops)) (by kernel_rfl) (fun hb => ?_) (fun hb => ?_)
          · replace hm := hm.1 hb
            refine wskip ?_
            refine wseq ?_
            refine wblock ?_
            refine regP T hS (sp := []) (ks := [1, 2, 6, 7, 25, 26]) (bs := [3]) (sy' := ⟨[(1, V (.slice a1 m_.length c1)), (2, Pt 3 0), (6, V (.slice a122 out_121.length c123)), (7, I x_125), (25, I s_.Ops), (26, I x_125)], [(3, (23, [I s_.Ops, I s_.States]))]⟩) (by kernel_rfl) ?_
            intro a hS
            refine regP T hS (sp := []) (ks := [1, 2, 6, 7, 8, 25, 26]) (bs := [3]) (sy' := ⟨[(1, V (.slice a1 m_.length c1)), (2, Pt 3 0), (6, V (.slice a122 out_121.length c123)), (7, I x_125), (8, I (-1)), (25, I s_.Ops), (26, I x_125)], [(3, (23, [I s_.Ops, I s_.States]))]⟩) (by kernel_rfl) ?_
            intro a hS
            refine wcut (fun a w => ∃ (ρ : Nat → Nat) (χ : Nat → Nat) (out_127 : List Int) (at_131 : Int) (a128 : Option Addr) (c129 : Nat), VC51_J3 Q I1 μ1 out_121 x_125 out_127 at_131 ∧ St Try.f51.ntmps ⟨[(1, V (.slice a1 m_.length c1)), (2, Pt 3 0), (6, V (.slice a128 out_127.length c129)), (8, I at_131), (25, I s_.Ops), (26, I x_125)], [(3, (23, [I s_.Ops, I s_.States]))]⟩ ρ a w χ ∧ Old w0 χ0 w χ ∧ RS tBool w χ a1 m_ c1 ∧ OS tI 3 w χ 1005 a128 out_127 c129) ?_ ?_
            · refine regP T hS (sp := []) (ks := [1, 2, 6, 7, 8, 25, 26, 30, 31]) (bs := [3]) (sy' := ⟨[(1, V (.slice a1 m_.length c1)), (2, Pt 3 0), (6, V (.slice a122 out_121.length c123)), (7, I x_125), (8, I (-1)), (25, I s_.Ops), (26, I x_125), (30, I s_.Ops), (31, I 0)], [(3, (23, [I s_.Ops, I s_.States]))]⟩) (by kernel_rfl) ?_
              intro a hS
              refine wblock ?_
              obtain ⟨I2, μ2, hm0, hm⟩ := hm
              refine wloop (σ := (List Int) × Int × Int) (fun s a w => ∃ (ρ : Nat → Nat) (χ : Nat → Nat) (a134 : Option Addr) (c135 : Nat), I2 s.1 s.2.1 s.2.2 ∧ St Try.f51.ntmps ⟨[(1, V (.slice a1 m_.length c1)), (2, Pt 3 0), (6, V (.slice a134 s.1.length c135)), (7, I x_125), (8, I s.2.1), (25, I s_.Ops), (26, I x_125), (30, I s_.Ops), (31, I s.2.2)], [(3, (23, [I s_.Ops, I s_.States]))]⟩ ρ a w χ ∧ Old w0 χ0 w χ ∧ RS tBool w χ a1 m_ c1 ∧ OS tI 3 w χ 1005 a134 s.1 c135) (fun s => μ2 s.1 s.2.1 s.2.2) (⟨out_121, (-1), 0⟩) ?_ ?_
              · exact ⟨ρ, _, a122, c123, hm0, hS.sel [1, 2, 6, 7, 8, 25, 26, 30, 31] [3] (by kernel_rfl), hO, h120, h124⟩
              · rintro ⟨out_133, at_137, x_138⟩ a w174 ⟨ρ, χ173, a134, c135, hI, hS, hO, h132, h136⟩
                replace hm := hm out_133 at_137 x_138 hI
                clear hI hm0
                refine regP T hS (sp := []) (ks := [1, 2, 6, 7, 8, 25, 26, 30, 31, 32]) (bs := [3]) (sy' := ⟨[(1, V (.slice a1 m_.length c1)), (2, Pt 3 0), (6, V (.slice a134 out_133.length c135)), (7, I x_125), (8, I at_137), (25, I s_.Ops), (26, I x_125), (30, I s_.Ops), (31, I x_138), (32, B (decide (x_138 < s_.Ops)))], [(3, (23, [I s_.Ops, I s_.States]))]⟩) (by kernel_rfl) ?_
                intro a hS
                refine wseq ?_
                refine wcond hS (b := decide (x_138 < s_.Ops)) (by kernel_rfl) (fun hb => ?_) (fun hb => ?_)
                · replace hm := hm.1 hb
                  refine wskip ?_
                  refine wcut (fun a w => ∃ (ρ : Nat → Nat) (χ : Nat → Nat) (out_140 : List Int) (at_144 : Int) (a141 : Option Addr) (c142 : Nat), VC51_J4 I2 μ2 out_133 at_137 x_138 out_140 at_144 ∧ St Try.f51.ntmps ⟨[(1, V (.slice a1 m_.length c1)), (2, Pt 3 0), (6, V (.slice a141 out_140.length c142)), (7, I x_125), (8, I at_144), (25, I s_.Ops), (26, I x_125), (30, I s_.Ops), (31, I x_138)], [(3, (23, [I s_.Ops, I s_.States]))]⟩ ρ a w χ ∧ Old w0 χ0 w χ ∧ RS tBool w χ a1 m_ c1 ∧ OS tI 3 w χ 1005 a141 out_140 c142) ?_ ?_
                  · refine wblock ?_
                    refine regP T hS (sp := []) (ks := [1, 2, 6, 7, 8, 9, 25, 26, 30, 31]) (bs := [3]) (sy' := ⟨[(1, V (.slice a1 m_.length c1)), (2, Pt 3 0), (6, V (.slice a134 out_133.length c135)), (7, I x_125), (8, I at_137), (9, I x_138), (25, I s_.Ops), (26, I x_125), (30, I s_.Ops), (31, I x_138)], [(3, (23, [I s_.Ops, I s_.States]))]⟩) (by kernel_rfl) ?_
                    intro a hS
                    refine wseq ?_
                    refine regO ?_
                    refine opsP T hS 5 (sp := []) (ks := [1, 2, 6, 7, 8, 9, 25, 26, 30, 31, 34, 35, 38]) (bs := [3]) (sy' := ⟨[(1, V (.slice a1 m_.length c1)), (2, Pt 3 0), (6, V (.slice a134 out_133.length c135)), (7, I x_125), (8, I at_137), (9, I x_138), (25, I s_.Ops), (26, I x_125), (30, I s_.Ops), (31, I x_138), (34, V (.slice a1 m_.length c1)), (35, V (.agg #[.int .i64 s_.Ops, .int .i64 s_.States])), (38, V (.agg #[.int .i64 1, .int .i64 x_125, .int .i64 x_138]))], [(3, (23, [I s_.Ops, I s_.States]))]⟩) (by kernel_rfl) ?_
                    intro a hS
                    refine op1 (call hS (by kernel_rfl) (by kernel_rfl) hb24 (by kernel_rfl) (fun _ _ => rfl) (k24 _ _ s_ (⟨1, x_125, x_138⟩ : Numbering_Name)) ?_)
                    intro v145 a w146 χ147 hE hp hS
                    replace hO := hO.mv hE rfl rfl
                    replace h132 := h132.mv hE rfl
                    replace h136 := h136.mv hE rfl rfl
                    clear hE
                    obtain ⟨r148, hr⟩ : ∃ r, numbering_Var s_ (⟨1, x_125, x_138⟩ : Numbering_Name) = r := ⟨_, rfl⟩
                    replace hm := hm r148 hr
                    rw [hr] at hp
                    clear hr
                    subst hp
                    refine opsP T hS 1 (sp := []) (ks := [1, 2, 6, 7, 8, 9, 25, 26, 30, 31, 34, 40]) (bs := [3]) (sy' := ⟨[(1, V (.slice a1 m_.length c1)), (2, Pt 3 0), (6, V (.slice a134 out_133.length c135)), (7, I x_125), (8, I at_137), (9, I x_138), (25, I s_.Ops), (26, I x_125), (30, I s_.Ops), (31, I x_138), (34, V (.slice a1 m_.length c1)), (40, I (IntKind.i64.wrap (r148 - 1)))], [(3, (23, [I s_.Ops, I s_.States]))]⟩) (by kernel_rfl) ?_
                    intro a hS
                    obtain ⟨hq, hm⟩ := hm
                    refine op1 (index (e := 4) (k := .i64) T hS (by kernel_rfl) (by kernel_rfl) (by kernel_rfl) (by kernel_rfl) h132 (by kernel_rfl) (by kernel_rfl) hq.1 hq.2 ?_)
                    intro A149 a h150 hS
                    clear hq
                    refine op1 (load1 T hS (by kernel_rfl) (by kernel_rfl) (by kernel_rfl) h150 rfl (by kernel_rfl) ?_)
                    intro v151 a hv hS
                    cases hv
                    refine endP T hS (sp := []) (ks := [1, 2, 6, 7, 8, 9, 25, 26, 30, 31, 43]) (bs := [3]) (sy' := ⟨[(1, V (.slice a1 m_.length c1)), (2, Pt 3 0), (6, V (.slice a134 out_133.length c135)), (7, I x_125), (8, I at_137), (9, I x_138), (25, I s_.Ops), (26, I x_125), (30, I s_.Ops), (31, I x_138), (43, B (!(gi m_ (IntKind.i64.wrap (r148 - 1)))))], [(3, (23, [I s_.Ops, I s_.States]))]⟩) (by kernel_rfl) ?_
                    intro a hS
                    refine wcond hS (b := (!(gi m_ (IntKind.i64.wrap (r148 - 1))))) (by kernel_rfl) (fun hb => ?_) (fun hb => ?_)
                    · replace hm := hm.1 hb
                      refine wexit (by rfl) ?_
                      exact ⟨ρ, _, out_133, at_137, a134, c135, hm, hS.sel [1, 2, 6, 7, 8, 25, 26, 30, 31] [3] (by kernel_rfl), hO, h132, h136⟩
                    · replace hm := hm.2 hb
                      refine wskip ?_
                      refine wseq ?_
                      refine wcut (fun a w => ∃ (ρ : Nat → Nat) (χ : Nat → Nat) (out_153 : List Int) (x_157 : Bool) (a154 : Option Addr) (c155 : Nat), VC51_J5 Q x_125 I2 μ2 out_133 at_137 x_138 out_153 x_157 ∧ St Try.f51.ntmps ⟨[(1, V (.slice a1 m_.length c1)), (2, Pt 3 0), (6, V (.slice a154 out_153.length c155)), (7, I x_125), (9, I x_138), (25, I s_.Ops), (26, I x_125), (30, I s_.Ops), (31, I x_138), (52, B x_157)], [(3, (23, [I s_.Ops, I s_.States]))]⟩ ρ a w χ ∧ Old w0 χ0 w χ ∧ RS tBool w χ a1 m_ c1 ∧ OS tI 3 w χ 1005 a154 out_153 c155) ?_ ?_
                      · refine region ?_
                        refine opsP T hS 3 (sp := []) (ks := [1, 2, 6, 7, 9, 25, 26, 30, 31, 46]) (bs := [3]) (sy' := ⟨[(1, V (.slice a1 m_.length c1)), (2, Pt 3 0), (6, V (.slice a134 out_133.length c135)), (7, I x_125), (9, I x_138), (25, I s_.Ops), (26, I x_125), (30, I s_.Ops), (31, I x_138), (46, B (decide (at_137 ≥ 0)))], [(3, (23, [I s_.Ops, I s_.States]))]⟩) (by kernel_rfl) ?_
                        intro a hS
                        rcases Bool.eq_false_or_eq_true (decide (at_137 ≥ 0)) with hb | hb
                        · replace hS := hS.lit (t := 46) (by kernel_rfl) hb
                          replace hm := hm.1 hb
                          refine endP T hS (sp := []) (ks := [1, 2, 6, 7, 9, 25, 26, 30, 31, 52]) (bs := [3]) (sy' := ⟨[(1, V (.slice a1 m_.length c1)), (2, Pt 3 0), (6, V (.slice a134 out_133.length c135)), (7, I x_125), (9, I x_138), (25, I s_.Ops), (26, I x_125), (30, I s_.Ops), (31, I x_138), (52, B true)], [(3, (23, [I s_.Ops, I s_.States]))]⟩) (by kernel_rfl) ?_
                          intro a hS
                          exact ⟨ρ, _, out_133, true, a134, c135, hm, hS.sel [1, 2, 6, 7, 9, 25, 26, 30, 31, 52] [3] (by kernel_rfl), hO, h132, h136⟩
                        · replace hS := hS.lit (t := 46) (by kernel_rfl) hb
                          replace hm := hm.2 hb
                          refine opsP T hS 2 (sp := []) (ks := [1, 2, 6, 7, 9, 25, 26, 30, 31, 46, 47, 48]) (bs := [3]) (sy' := ⟨[(1, V (.slice a1 m_.length c1)), (2, Pt 3 0), (6, V (.slice a134 out_133.length c135)), (7, I x_125), (9, I x_138), (25, I s_.Ops), (26, I x_125), (30, I s_.Ops), (31, I x_138), (46, B false), (47, V (.slice a134 out_133.length c135)), (48, I x_138)], [(3, (23, [I s_.Ops, I s_.States]))]⟩) (by kernel_rfl) ?_
                          intro a hS
                          obtain ⟨hq167, hm⟩ := hm
                          refine op1 (indexX (E := 3) (k := .i64) T hS (by kernel_rfl) (by kernel_rfl) (by kernel_rfl) (by kernel_rfl) h136 (by kernel_rfl) (by kernel_rfl) hq167.1 hq167.2 ?_)
                          intro A164 a h166 h165 hS
                          refine op1 (load1X T hS (by kernel_rfl) (by kernel_rfl) (by kernel_rfl) h165 rfl (by kernel_rfl) ?_)
                          intro v168 a hv hS
                          cases hv
                          refine endP T hS (sp := []) (ks := [1, 2, 6, 7, 9, 25, 26, 30, 31, 47, 48, 49, 50, 51, 52]) (bs := [3]) (sy' := ⟨[(1, V (.slice a1 m_.length c1)), (2, Pt 3 0), (6, V (.slice a134 out_133.length c135)), (7, I x_125), (9, I x_138), (25, I s_.Ops), (26, I x_125), (30, I s_.Ops), (31, I x_138), (47, V (.slice a134 out_133.length c135)), (48, I x_138), (49, V (.pointer (some A164))), (50, I (gi out_133 x_138)), (51, B (decide ((gi out_133 x_138) ≥ 0))), (52, B (decide ((gi out_133 x_138) ≥ 0)))], [(3, (23, [I s_.Ops, I s_.States]))]⟩) (by kernel_rfl) ?_
                          intro a hS
                          exact ⟨ρ, _, out_133, decide ((gi out_133 x_138) ≥ 0), a134, c135, hm, hS.sel [1, 2, 6, 7, 9, 25, 26, 30, 31, 52] [3] (by kernel_rfl), hO, h132, h136⟩
                      · rintro a w170 ⟨ρ, χ169, out_153, x_157, a154, c155, hm, hS, hO, h152, h156⟩
                        unfold VC51_J5 at hm
                        refine wcond hS (b := x_157) (by kernel_rfl) (fun hb => ?_) (fun hb => ?_)
                        · replace hm := hm.1 hb
                          refine regP T hS (sp := []) (ks := [4, 5]) (bs := []) (sy' := ⟨[(4, V (.slice none 0 0)), (5, B false)], []⟩) (by kernel_rfl) ?_
                          intro a hS
                          refine wret ?_
                          exact fin T hS hO (fun c => c) rfl (r := [.slice none 0 0, .bool false]) (by kernel_rfl) (fun χ' hM hC => ⟨([], false), hm, none, 0, rfl, RS.empty _ _ _⟩)
                        · replace hm := hm.2 hb
                          refine wskip ?_
                          refine region ?_
                          refine opsP T hS 5 (sp := []) (ks := [1, 2, 6, 7, 8, 25, 26, 30, 31, 53, 54, 56]) (bs := [3]) (sy' := ⟨[(1, V (.slice a1 m_.length c1)), (2, Pt 3 0), (6, V (.slice a154 out_153.length c155)), (7, I x_125), (8, I x_138), (25, I s_.Ops), (26, I x_125), (30, I s_.Ops), (31, I x_138), (53, V (.slice a154 out_153.length c155)), (54, I x_138), (56, I x_125)], [(3, (23, [I s_.Ops, I s_.States]))]⟩) (by kernel_rfl) ?_
                          intro a hS
                          obtain ⟨hq161, hm⟩ := hm
                          refine op1 (indexX (E := 3) (k := .i64) T hS (by kernel_rfl) (by kernel_rfl) (by kernel_rfl) (by kernel_rfl) h156 (by kernel_rfl) (by kernel_rfl) hq161.1 hq161.2 ?_)
                          intro A158 a h160 h159 hS
                          refine op1 (storeO (x := x_125) (v := I x_125) (i := x_138.toNat) (E := 3) (xs := out_153) T hS (by kernel_rfl) (by kernel_rfl) (by kernel_rfl) (by kernel_rfl) h156 h160 (by have := hq161.1; have := hq161.2; omega) (by kernel_rfl) (fun _ _ _ => rfl) ?_)
                          intro a w162 hE h163 hS
                          clear h156 h160 h159 hq161
                          replace hO := hO.mv hE rfl rfl
                          replace h152 := h152.mv hE rfl
                          clear hE
                          replace hS := hS.conv (t := 6) (y := .slice a154 (out_153.set x_138.toNat x_125).length c155) (by kernel_rfl) (by rw [List.length_set])
                          replace hS := hS.conv (t := 53) (y := .slice a154 (out_153.set x_138.toNat x_125).length c155) (by kernel_rfl) (by rw [List.length_set])
                          refine doneK ?_
                          exact ⟨ρ, _, (out_153.set x_138.toNat x_125), x_138, a154, c155, hm, hS.sel [1, 2, 6, 7, 8, 25, 26, 30, 31] [3] (by kernel_rfl), hO, h152, h163⟩
                  · rintro a w172 ⟨ρ, χ171, out_140, at_144, a141, c142, hm, hS, hO, h139, h143⟩
                    unfold VC51_J4 at hm
                    refine region (endP T hS (sp := []) (ks := [1, 2, 6, 7, 8, 25, 26, 30, 31]) (bs := [3]) (sy' := ⟨[(1, V (.slice a1 m_.length c1)), (2, Pt 3 0), (6, V (.slice a141 out_140.length c142)), (7, I x_125), (8, I at_144), (25, I s_.Ops), (26, I x_125), (30, I s_.Ops), (31, I (IntKind.i64.wrap (x_138 + 1)))], [(3, (23, [I s_.Ops, I s_.States]))]⟩) (by kernel_rfl) ?_)
                    intro a hS
                    exact ⟨⟨out_140, at_144, IntKind.i64.wrap (x_138 + 1)⟩, ⟨ρ, _, a141, c142, hm.1, hS.sel [1, 2, 6, 7, 8, 25, 26, 30, 31] [3] (by kernel_rfl), hO, h139, h143⟩, hm.2⟩
                · replace hm := hm.2 hb
                  refine wexit (by rfl) ?_
                  exact ⟨ρ, _, out_133, at_137, a134, c135, hm, hS.sel [1, 2, 6, 8, 25, 26] [3] (by kernel_rfl), hO, h132, h136⟩
            · rintro a w176 ⟨ρ, χ175, out_127, at_131, a128, c129, hm, hS, hO, h126, h130⟩
              unfold VC51_J3 at hm
              refine regP T hS (sp := []) (ks := [1, 2, 6, 25, 26, 60]) (bs := [3]) (sy' := ⟨[(1, V (.slice a1 m_.length c1)), (2, Pt 3 0), (6, V (.slice a128 out_127.length c129)), (25, I s_.Ops), (26, I x_125), (60, B (decide (at_131 < 0)))], [(3, (23, [I s_.Ops, I s_.States]))]⟩) (by kernel_rfl) ?_
              intro a hS
              refine wcond hS (b := decide (at_131 < 0)) (by kernel_rfl) (fun hb => ?_) (fun hb => ?_)
              · replace hm := hm.1 hb
                refine regP T hS (sp := []) (ks := [4, 5]) (bs := []) (sy' := ⟨[(4, V (.slice none 0 0)), (5, B false)], []⟩) (by kernel_rfl) ?_
                intro a hS
                refine wret ?_
                exact fin T hS hO (fun c => c) rfl (r := [.slice none 0 0, .bool false]) (by kernel_rfl) (fun χ' hM hC => ⟨([], false), hm, none, 0, rfl, RS.empty _ _ _⟩)
              · replace hm := hm.2 hb
                refine wskip ?_
                refine region (endP T hS (sp := []) (ks := [1, 2, 6, 25, 26]) (bs := [3]) (sy' := ⟨[(1, V (.slice a1 m_.length c1)), (2, Pt 3 0), (6, V (.slice a128 out_127.length c129)), (25, I s_.Ops), (26, I (IntKind.i64.wrap (x_125 + 1)))], [(3, (23, [I s_.Ops, I s_.States]))]⟩) (by kernel_rfl) ?_)
                intro a hS
                exact ⟨⟨out_127, IntKind.i64.wrap (x_125 + 1)⟩, ⟨ρ, _, a128, c129, hm.1, hS.sel [1, 2, 6, 25, 26] [3] (by kernel_rfl), hO, h126, h130⟩, hm.2⟩
          · replace hm := hm.2 hb
            refine wexit (by rfl) ?_
            exact ⟨ρ, _, out_121, a122, c123, hm, hS.sel [6] [] (by kernel_rfl), hO, h124⟩
      · rintro a w180 ⟨ρ, χ179, out_114, a115, c116, hm, hS, hO, h117⟩
        unfold VC51_J2 at hm
        refine regP T hS (sp := []) (ks := [4, 5]) (bs := []) (sy' := ⟨[(4, V (.slice a115 out_114.length c116)), (5, B true)], []⟩) (by kernel_rfl) ?_
        intro a hS
        refine wret ?_
        obtain ⟨χ118, hE, hF⟩ := h117.freeze (by decide)
        replace hS := hS.ev hE (xone_box (by kernel_rfl))
        replace hO := hO.mv hE rfl rfl
        have h119 := hF; clear hE hF
        exact fin T hS hO (fun c => c) rfl (r := [.slice a115 out_114.length c116, .bool true]) (by kernel_rfl) (fun χ' hM hC => ⟨(out_114, true), hm, a115, c116, rfl, h119.m0 hM⟩)
theorem C51 (k21 : S21) (k23 : S23) (k24 : S24) (k76 : S76) (v : ∀ (s_ : Numbering_Size) (m_ : List Bool), VC51 s_ m_ (fun r => r = places_Order s_ m_)) : S51 := by
  intro w χ s_ m_ a1 c1   h1
  refine (W51 k21 k23 k24 k76 w χ s_ m_ a1 c1   _ (v s_ m_) h1).mono ?_
  rintro _ _ _ _ ⟨r, rfl, h⟩
  exact h
def S52 : Prop := ∀ (w : World) (χ : Nat → Nat) (P : Int) (O : Int) (S : List Bool) (a1 : Option Addr) (c1 : Nat), RS tBool w χ a1 S c1 → Ret Try.prog 52 #[.int .i64 P, .int .i64 O, .slice a1 S.length c1] xnone w χ (fun w χ' v => ∃ (ra1 : Option Addr) (rc1 : Nat), v = .tuple #[.slice ra1 ((ref32_Order P O S).1).length rc1, .bool ((ref32_Order P O S).2)] ∧ RS tI w χ' ra1 ((ref32_Order P O S).1) rc1)
theorem hb52 : hasBody Try.prog 52 = true := by kernel_rfl
/-- replevin/replevinref32.Order -/
theorem W52 (k22 : S22) (k71 : S71) (w0 : World) (χ0 : Nat → Nat) (P : Int) (O : Int) (S : List Bool) (a1 : Option Addr) (c1 : Nat) (Q : (List Int) × Bool → Prop) (hm : VC52 P O S Q) (h1 : RS tBool w0 χ0 a1 S c1) :
    Ret Try.prog 52 #[.int .i64 P, .int .i64 O, .slice a1 S.length c1] xnone w0 χ0 (fun w χ' v => ∃ r, Q r ∧ ∃ (ra1 : Option Addr) (rc1 : Nat), v = .tuple #[.slice ra1 r.1.length rc1, .bool r.2] ∧ RS tI w χ' ra1 r.1 rc1) := by
  unfold VC52 at hm
  replace hm := hm (h1.sm (by kernel_rfl))
  refine enter Try.func52 rfl (vals := [.int .i64 P, .int .i64 O, .slice a1 S.length c1]) (by kernel_rfl) ?_
  intro ρ a hS hO hM
  replace h1 := h1.m0 hM
  clear hM
  refine regP T hS (sp := []) (ks := [0, 1, 2]) (bs := []) (sy' := ⟨[(0, I P), (1, I O), (2, V (.slice a1 S.length c1))], []⟩) (by kernel_rfl) ?_
  intro a hS
  refine wseq ?_
  refine regO ?_
  refine opsP T hS 2 (sp := []) (ks := [0, 1, 2, 14, 15]) (bs := []) (sy' := ⟨[(0, I P), (1, I O), (2, V (.slice a1 S.length c1)), (14, I P), (15, I O)], []⟩) (by kernel_rfl) ?_
  intro a hS
  refine op1 (call hS (by kernel_rfl) (by kernel_rfl) hb22 (by kernel_rfl) (fun _ _ => rfl) (k22 _ _ P O) ?_)
  intro v101 a w102 χ103 hE hp hS
  replace hO := hO.mv hE rfl rfl
  replace h1 := h1.mv hE rfl
  clear hE
  obtain ⟨r104, hr⟩ : ∃ r, ref31_Check P O = r := ⟨_, rfl⟩
  replace hm := hm r104 hr
  rw [hr] at hp
  clear hr
  subst hp
  refine endP T hS (sp := [18]) (ks := [0, 1, 2, 32]) (bs := []) (sy' := ⟨[(0, I P), (1, I O), (2, V (.slice a1 S.length c1)), (32, B ((r104 != 0) || (((S.length : Nat) : Int) != (IntKind.i64.wrap ((IntKind.i64.wrap ((IntKind.i64.wrap (P * P)) + P)) + (IntKind.i64.wrap ((IntKind.i64.wrap (P + 1)) * O)))))))], []⟩) (by kernel_rfl) ?_
  intro a hS
  refine wcond hS (b := ((r104 != 0) || (((S.length : Nat) : Int) != (IntKind.i64.wrap ((IntKind.i64.wrap ((IntKind.i64.wrap (P * P)) + P)) + (IntKind.i64.wrap ((IntKind.i64.wrap (P + 1)) * O))))))) (by kernel_rfl) (fun hb => ?_) (fun hb => ?_)
  · replace hm := hm.1 hb
    refine regP T hS (sp := []) (ks := [6, 7]) (bs := []) (sy' := ⟨[(6, V (.slice none 0 0)), (7, B false)], []⟩) (by kernel_rfl) ?_
    intro a hS
    refine wret ?_
    exact fin T hS hO (fun c => c) rfl (r := [.slice none 0 0, .bool false]) (by kernel_rfl) (fun χ' hM hC => ⟨([], false), hm, none, 0, rfl, RS.empty _ _ _⟩)
  · replace hm := hm.2 hb
    refine wskip ?_
    refine regP T hS (sp := []) (ks := [0, 1, 2, 8]) (bs := []) (sy' := ⟨[(0, I P), (1, I O), (2, V (.slice a1 S.length c1)), (8, V (.slice none 0 0))], []⟩) (by kernel_rfl) ?_
    intro a hS
    refine wcut (fun a w => ∃ (ρ : Nat → Nat) (χ : Nat → Nat) (r_105 : List Int) (a106 : Option Addr) (c107 : Nat), VC52_J1 Q r_105 ∧ St Try.f52.ntmps ⟨[(8, V (.slice a106 r_105.length c107))], []⟩ ρ a w χ ∧ Old w0 χ0 w χ ∧ OS tI 3 w χ 1007 a106 r_105 c107) ?_ ?_
    · refine regP T hS (sp := []) (ks := [0, 1, 2, 8, 9]) (bs := []) (sy' := ⟨[(0, I P), (1, I O), (2, V (.slice a1 S.length c1)), (8, V (.slice none 0 0)), (9, I 0)], []⟩) (by kernel_rfl) ?_
      intro a hS
      refine wblock ?_
      obtain ⟨I1, μ1, hm0, hm⟩ := hm
      refine wloop (σ := (List Int) × Int) (fun s a w => ∃ (ρ : Nat → Nat) (χ : Nat → Nat) (a113 : Option Addr) (c114 : Nat), I1 s.1 s.2 ∧ St Try.f52.ntmps ⟨[(0, I P), (1, I O), (2, V (.slice a1 S.length c1)), (8, V (.slice a113 s.1.length c114)), (9, I s.2)], []⟩ ρ a w χ ∧ Old w0 χ0 w χ ∧ RS tBool w χ a1 S c1 ∧ OS tI 3 w χ 1007 a113 s.1 c114) (fun s => μ1 s.1 s.2) (⟨[], 0⟩) ?_ ?_
      · exact ⟨ρ, _, none, 0, hm0, hS.sel [0, 1, 2, 8, 9] [] (by kernel_rfl), hO, h1, (OS.nil _ _ _ _ _)⟩
      · rintro ⟨r_112, r_116⟩ a w182 ⟨ρ, χ181, a113, c114, hI, hS, hO, h111, h115⟩
        replace hm := hm r_112 r_116 hI
        clear hI hm0
        refine wseq ?_
        refine regP T hS (sp := []) (ks := [0, 1, 2, 8, 9, 35]) (bs := []) (sy' := ⟨[(0, I P), (1, I O), (2, V (.slice a1 S.length c1)), (8, V (.slice a113 r_112.length c114)), (9, I r_116), (35, B (decide (r_116 < P)))], []⟩) (by kernel_rfl) ?_
        intro a hS
        refine wcond hS (b := decide (r_116 < P)) (by kernel_rfl) (fun hb => ?_) (fun hb => ?_)
        · replace hm := hm.1 hb
          refine wskip ?_
          refine wseq ?_
          refine wblock ?_
          refine regP T hS (sp := []) (ks := [0, 1, 2, 8, 9, 10, 11]) (bs := []) (sy' := ⟨[(0, I P), (1, I O), (2, V (.slice a1 S.length c1)), (8, V (.slice a113 r_112.length c114)), (9, I r_116), (10, I (-1)), (11, I 0)], []⟩) (by kernel_rfl) ?_
          intro a hS
          refine wcut (fun a w => ∃ (ρ : Nat → Nat) (χ : Nat → Nat) (r_118 : List Int) (a_122 : Int) (y_123 : Int) (a119 : Option Addr) (c120 : Nat), VC52_J2 Q I1 μ1 r_112 r_116 r_118 a_122 y_123 ∧ St Try.f52.ntmps ⟨[(0, I P), (1, I O), (2, V (.slice a1 S.length c1)), (8, V (.slice a119 r_118.length c120)), (9, I r_116), (10, I a_122), (11, I y_123)], []⟩ ρ a w χ ∧ Old w0 χ0 w χ ∧ RS tBool w χ a1 S c1 ∧ OS tI 3 w χ 1007 a119 r_118 c120) ?_ ?_
          · refine regP T hS (sp := []) (ks := [0, 1, 2, 8, 9, 10, 11, 12]) (bs := []) (sy' := ⟨[(0, I P), (1, I O), (2, V (.slice a1 S.length c1)), (8, V (.slice a113 r_112.length c114)), (9, I r_116), (10, I (-1)), (11, I 0), (12, I 0)], []⟩) (by kernel_rfl) ?_
            intro a hS
            refine wblock ?_
            obtain ⟨I3, μ3, hm0, hm⟩ := hm
            refine wloop (σ := (List Int) × Int × Int × Int) (fun s a w => ∃ (ρ : Nat → Nat) (χ : Nat → Nat) (a155 : Option Addr) (c156 : Nat), I3 s.1 s.2.1 s.2.2.1 s.2.2.2 ∧ St Try.f52.ntmps ⟨[(0, I P), (1, I O), (2, V (.slice a1 S.length c1)), (8, V (.slice a155 s.1.length c156)), (9, I r_116), (10, I s.2.1), (11, I s.2.2.1), (12, I s.2.2.2)], []⟩ ρ a w χ ∧ Old w0 χ0 w χ ∧ RS tBool w χ a1 S c1 ∧ OS tI 3 w χ 1007 a155 s.1 c156) (fun s => μ3 s.1 s.2.1 s.2.2.1 s.2.2.2) (⟨r_112, (-1), 0, 0⟩) ?_ ?_
            · exact ⟨ρ, _, a113, c114, hm0, hS.sel [0, 1, 2, 8, 9, 10, 11, 12] [] (by kernel_rfl), hO, h111, h115⟩
            · rintro ⟨r_154, a_158, y_159, x_160⟩ a w178 ⟨ρ, χ177, a155, c156, hI, hS, hO, h153, h157⟩
              replace hm := hm r_154 a_158 y_159 x_160 hI
              clear hI hm0
              refine wseq ?_
              refine regP T hS (sp := []) (ks := [0, 1, 2, 8, 9, 10, 11, 12, 40]) (bs := []) (sy' := ⟨[(0, I P), (1, I O), (2, V (.slice a1 S.length c1)), (8, V (.slice a155 r_154.length c156)), (9, I r_116), (10, I a_158), (11, I y_159), (12, I x_160), (40, B (decide (x_160 < P)))], []⟩) (by kernel_rfl) ?_
              intro a hS
              refine wcond hS (b := decide (x_160 < P)) (by kernel_rfl) (fun hb => ?_) (fun hb => ?_)
              · replace hm := hm.1 hb
                refine wskip ?_
                refine wcut (fun a w => ∃ (ρ : Nat → Nat) (χ : Nat → Nat) (r_162 : List Int) (a_166 : Int) (y_167 : Int) (a163 : Option Addr) (c164 : Nat), VC52_J4 I3 μ3 r_154 a_158 y_159 x_160 r_162 a_166 y_167 ∧ St Try.f52.ntmps ⟨[(0, I P), (1, I O), (2, V (.slice a1 S.length c1)), (8, V (.slice a163 r_162.length c164)), (9, I r_116), (10, I a_166), (11, I y_167), (12, I x_160)], []⟩ ρ a w χ ∧ Old w0 χ0 w χ ∧ RS tBool w χ a1 S c1 ∧ OS tI 3 w χ 1007 a163 r_162 c164) ?_ ?_
                · refine wblock ?_
                  refine regO ?_
                  refine opsP T hS 5 (sp := []) (ks := [0, 1, 2, 8, 9, 10, 11, 12, 43, 44, 45, 46, 47]) (bs := []) (sy' := ⟨[(0, I P), (1, I O), (2, V (.slice a1 S.length c1)), (8, V (.slice a155 r_154.length c156)), (9, I r_116), (10, I a_158), (11, I y_159), (12, I x_160), (43, V (.slice a1 S.length c1)), (44, I P), (45, I O), (46, I x_160), (47, I r_116)], []⟩) (by kernel_rfl) ?_
                  intro a hS
                  refine op1 (call hS (by kernel_rfl) (by kernel_rfl) hb71 (by kernel_rfl) (fun _ _ => rfl) (k71 _ _ P O x_160 r_116) ?_)
                  intro v168 a w169 χ170 hE hp hS
                  replace hO := hO.mv hE rfl rfl
                  replace h153 := h153.mv hE rfl
                  replace h157 := h157.mv hE rfl rfl
                  clear hE
                  obtain ⟨r171, hr⟩ : ∃ r, ref31_At P O x_160 r_116 = r := ⟨_, rfl⟩
                  replace hm := hm r171 hr
                  rw [hr] at hp
                  clear hr
                  subst hp
                  refine opsP T hS 1 (sp := []) (ks := [0, 1, 2, 8, 9, 10, 11, 12, 43, 49]) (bs := []) (sy' := ⟨[(0, I P), (1, I O), (2, V (.slice a1 S.length c1)), (8, V (.slice a155 r_154.length c156)), (9, I r_116), (10, I a_158), (11, I y_159), (12, I x_160), (43, V (.slice a1 S.length c1)), (49, I (IntKind.i64.wrap (r171 - 1)))], []⟩) (by kernel_rfl) ?_
                  intro a hS
                  obtain ⟨hq, hm⟩ := hm
                  refine op1 (index (e := 4) (k := .i64) T hS (by kernel_rfl) (by kernel_rfl) (by kernel_rfl) (by kernel_rfl) h153 (by kernel_rfl) (by kernel_rfl) hq.1 hq.2 ?_)
                  intro A172 a h173 hS
                  clear hq
                  refine op1 (load1 T hS (by kernel_rfl) (by kernel_rfl) (by kernel_rfl) h173 rfl (by kernel_rfl) ?_)
                  intro v174 a hv hS
                  cases hv
                  refine doneK ?_
                  refine wcond hS (b := gi S (IntKind.i64.wrap (r171 - 1))) (by kernel_rfl) (fun hb => ?_) (fun hb => ?_)
                  · replace hm := hm.1 hb
                    refine regP T hS (sp := []) (ks := [0, 1, 2, 8, 9, 10, 11, 12]) (bs := []) (sy' := ⟨[(0, I P), (1, I O), (2, V (.slice a1 S.length c1)), (8, V (.slice a155 r_154.length c156)), (9, I r_116), (10, I x_160), (11, I y_159), (12, I x_160)], []⟩) (by kernel_rfl) ?_
                    intro a hS
                    refine region (endP T hS (sp := []) (ks := [0, 1, 2, 8, 9, 10, 11, 12]) (bs := []) (sy' := ⟨[(0, I P), (1, I O), (2, V (.slice a1 S.length c1)), (8, V (.slice a155 r_154.length c156)), (9, I r_116), (10, I x_160), (11, I (IntKind.i64.wrap (y_159 + 1))), (12, I x_160)], []⟩) (by kernel_rfl) ?_)
                    intro a hS
                    exact ⟨ρ, _, r_154, x_160, IntKind.i64.wrap (y_159 + 1), a155, c156, hm, hS.sel [0, 1, 2, 8, 9, 10, 11, 12] [] (by kernel_rfl), hO, h153, h157⟩
                  · replace hm := hm.2 hb
                    refine wskip ?_
                    exact ⟨ρ, _, r_154, a_158, y_159, a155, c156, hm, hS.sel [0, 1, 2, 8, 9, 10, 11, 12] [] (by kernel_rfl), hO, h153, h157⟩
                · rintro a w176 ⟨ρ, χ175, r_162, a_166, y_167, a163, c164, hm, hS, hO, h161, h165⟩
                  unfold VC52_J4 at hm
                  refine region (endP T hS (sp := []) (ks := [0, 1, 2, 8, 9, 10, 11, 12]) (bs := []) (sy' := ⟨[(0, I P), (1, I O), (2, V (.slice a1 S.length c1)), (8, V (.slice a163 r_162.length c164)), (9, I r_116), (10, I a_166), (11, I y_167), (12, I (IntKind.i64.wrap (x_160 + 1)))], []⟩) (by kernel_rfl) ?_)
                  intro a hS
                  exact ⟨⟨r_162, a_166, y_167, IntKind.i64.wrap (x_160 + 1)⟩, ⟨ρ, _, a163, c164, hm.1, hS.sel [0, 1, 2, 8, 9, 10, 11, 12] [] (by kernel_rfl), hO, h161, h165⟩, hm.2⟩
              · replace hm := hm.2 hb
                refine wexit (by rfl) ?_
                exact ⟨ρ, _, r_154, a_158, y_159, a155, c156, hm, hS.sel [0, 1, 2, 8, 9, 10, 11] [] (by kernel_rfl), hO, h153, h157⟩
          · rintro a w180 ⟨ρ, χ179, r_118, a_122, y_123, a119, c120, hm, hS, hO, h117, h121⟩
            unfold VC52_J2 at hm
            refine wseq ?_
            refine regP T hS (sp := []) (ks := [0, 1, 2, 8, 9, 10, 56]) (bs := []) (sy' := ⟨[(0, I P), (1, I O), (2, V (.slice a1 S.length c1)), (8, V (.slice a119 r_118.length c120)), (9, I r_116), (10, I a_122), (56, B (y_123 != 1))], []⟩) (by kernel_rfl) ?_
            intro a hS
            refine wcond hS (b := (y_123 != 1)) (by kernel_rfl) (fun hb => ?_) (fun hb => ?_)
            · replace hm := hm.1 hb
              refine regP T hS (sp := []) (ks := [6, 7]) (bs := []) (sy' := ⟨[(6, V (.slice none 0 0)), (7, B false)], []⟩) (by kernel_rfl) ?_
              intro a hS
              refine wret ?_
              exact fin T hS hO (fun c => c) rfl (r := [.slice none 0 0, .bool false]) (by kernel_rfl) (fun χ' hM hC => ⟨([], false), hm, none, 0, rfl, RS.empty _ _ _⟩)
            · replace hm := hm.2 hb
              refine wskip ?_
              refine wcut (fun a w => ∃ (ρ : Nat → Nat) (χ : Nat → Nat) (r_125 : List Int) (a126 : Option Addr) (c127 : Nat), VC52_J3 I1 μ1 r_112 r_116 a_122 r_125 ∧ St Try.f52.ntmps ⟨[(0, I P), (1, I O), (2, V (.slice a1 S.length c1)), (8, V (.slice a126 r_125.length c127)), (9, I r_116), (10, I a_122)], []⟩ ρ a w χ ∧ Old w0 χ0 w χ ∧ RS tBool w χ a1 S c1 ∧ OS tI 3 w χ 1007 a126 r_125 c127) ?_ ?_
              · refine regP T hS (sp := []) (ks := [0, 1, 2, 8, 9, 10, 13]) (bs := []) (sy' := ⟨[(0, I P), (1, I O), (2, V (.slice a1 S.length c1)), (8, V (.slice a119 r_118.length c120)), (9, I r_116), (10, I a_122), (13, I 0)], []⟩) (by kernel_rfl) ?_
                intro a hS
                refine wblock ?_
                obtain ⟨I2, μ2, hm0, hm⟩ := hm
                refine wloop (σ := (List Int) × Int) (fun s a w => ∃ (ρ : Nat → Nat) (χ : Nat → Nat) (a140 : Option Addr) (c141 : Nat), I2 s.1 s.2 ∧ St Try.f52.ntmps ⟨[(0, I P), (1, I O), (2, V (.slice a1 S.length c1)), (8, V (.slice a140 s.1.length c141)), (9, I r_116), (10, I a_122), (13, I s.2)], []⟩ ρ a w χ ∧ Old w0 χ0 w χ ∧ RS tBool w χ a1 S c1 ∧ OS tI 3 w χ 1007 a140 s.1 c141) (fun s => μ2 s.1 s.2) (⟨r_118, 0⟩) ?_ ?_
                · exact ⟨ρ, _, a119, c120, hm0, hS.sel [0, 1, 2, 8, 9, 10, 13] [] (by kernel_rfl), hO, h117, h121⟩
                · rintro ⟨r_139, x_143⟩ a w150 ⟨ρ, χ149, a140, c141, hI, hS, hO, h138, h142⟩
                  replace hm := hm r_139 x_143 hI
                  clear hI hm0
                  refine wseq ?_
                  refine regP T hS (sp := []) (ks := [0, 1, 2, 8, 9, 10, 13, 60]) (bs := []) (sy' := ⟨[(0, I P), (1, I O), (2, V (.slice a1 S.length c1)), (8, V (.slice a140 r_139.length c141)), (9, I r_116), (10, I a_122), (13, I x_143), (60, B (decide (x_143 < ((r_139.length : Nat) : Int))))], []⟩) (by kernel_rfl) ?_
                  intro a hS
                  refine wcond hS (b := decide (x_143 < ((r_139.length : Nat) : Int))) (by kernel_rfl) (fun hb => ?_) (fun hb => ?_)
                  · replace hm := hm.1 hb
                    refine wskip ?_
                    refine wseq ?_
                    refine wblock ?_
                    refine regO ?_
                    refine opsP T hS 2 (sp := []) (ks := [0, 1, 2, 8, 9, 10, 13, 63, 64]) (bs := []) (sy' := ⟨[(0, I P), (1, I O), (2, V (.slice a1 S.length c1)), (8, V (.slice a140 r_139.length c141)), (9, I r_116), (10, I a_122), (13, I x_143), (63, V (.slice a140 r_139.length c141)), (64, I x_143)], []⟩) (by kernel_rfl) ?_
                    intro a hS
                    obtain ⟨hq147, hm⟩ := hm
                    refine op1 (indexX (E := 3) (k := .i64) T hS (by kernel_rfl) (by kernel_rfl) (by kernel_rfl) (by kernel_rfl) h142 (by kernel_rfl) (by kernel_rfl) hq147.1 hq147.2 ?_)
                    intro A144 a h146 h145 hS
                    refine op1 (load1X T hS (by kernel_rfl) (by kernel_rfl) (by kernel_rfl) h145 rfl (by kernel_rfl) ?_)
                    intro v148 a hv hS
                    cases hv
                    refine endP T hS (sp := []) (ks := [0, 1, 2, 8, 9, 10, 13, 68]) (bs := []) (sy' := ⟨[(0, I P), (1, I O), (2, V (.slice a1 S.length c1)), (8, V (.slice a140 r_139.length c141)), (9, I r_116), (10, I a_122), (13, I x_143), (68, B ((gi r_139 x_143) == a_122))], []⟩) (by kernel_rfl) ?_
                    intro a hS
                    refine wcond hS (b := ((gi r_139 x_143) == a_122)) (by kernel_rfl) (fun hb => ?_) (fun hb => ?_)
                    · replace hm := hm.1 hb
                      refine regP T hS (sp := []) (ks := [6, 7]) (bs := []) (sy' := ⟨[(6, V (.slice none 0 0)), (7, B false)], []⟩) (by kernel_rfl) ?_
                      intro a hS
                      refine wret ?_
                      exact fin T hS hO (fun c => c) rfl (r := [.slice none 0 0, .bool false]) (by kernel_rfl) (fun χ' hM hC => ⟨([], false), hm, none, 0, rfl, RS.empty _ _ _⟩)
                    · replace hm := hm.2 hb
                      refine wskip ?_
                      refine region (endP T hS (sp := []) (ks := [0, 1, 2, 8, 9, 10, 13]) (bs := []) (sy' := ⟨[(0, I P), (1, I O), (2, V (.slice a1 S.length c1)), (8, V (.slice a140 r_139.length c141)), (9, I r_116), (10, I a_122), (13, I (IntKind.i64.wrap (x_143 + 1)))], []⟩) (by kernel_rfl) ?_)
                      intro a hS
                      exact ⟨⟨r_139, IntKind.i64.wrap (x_143 + 1)⟩, ⟨ρ, _, a140, c141, hm.1, hS.sel [0, 1, 2, 8, 9, 10, 13] [] (by kernel_rfl), hO, h138, h142⟩, hm.2⟩
                  · replace hm := hm.2 hb
                    refine wexit (by rfl) ?_
                    exact ⟨ρ, _, r_139, a140, c141, hm, hS.sel [0, 1, 2, 8, 9, 10] [] (by kernel_rfl), hO, h138, h142⟩
              · rintro a w152 ⟨ρ, χ151, r_125, a126, c127, hm, hS, hO, h124, h128⟩
                unfold VC52_J3 at hm
                refine region ?_
                refine opsP T hS 2 (sp := []) (ks := [0, 1, 2, 8, 9, 69, 70]) (bs := []) (sy' := ⟨[(0, I P), (1, I O), (2, V (.slice a1 S.length c1)), (8, V (.slice a126 r_125.length c127)), (9, I r_116), (69, V (.slice a126 r_125.length c127)), (70, I a_122)], []⟩) (by kernel_rfl) ?_
                intro a hS
                refine op1 (lit (E := 3) (col := 0) (T := tI) (vals := [.int .i64 a_122]) (ys := [a_122]) T hS (by kernel_rfl) (by kernel_rfl) (by kernel_rfl) (by kernel_rfl) (by exact ⟨rfl, trivial⟩) rfl (by kernel_rfl) (by kernel_rfl) (by kernel_rfl) (by kernel_rfl) ?_)
                intro b129 a w130 χ131 hE h132 hN hS
                clear hN
                replace hO := hO.mv hE rfl rfl
                replace h124 := h124.mv hE rfl
                replace h128 := h128.mv hE rfl rfl
                clear hE
                replace h132 := h132.rs0
                obtain ⟨hq, hm⟩ := hm
                obtain ⟨news, hN⟩ := h132.src
                refine op1 (append (E := 3) (T := tI) (col := 1007) (xs := r_125) T hS (by kernel_rfl) (by kernel_rfl) (by kernel_rfl) (by kernel_rfl) h128 hN (by kernel_rfl) (by kernel_rfl) (by kernel_rfl) (by kernel_rfl) hq ?_)
                intro a136 c137 a w133 χ134 hE h135 hS
                clear hq hN
                clear h128
                replace hO := hO.mv hE rfl rfl
                replace h124 := h124.mv hE rfl
                replace h132 := h132.mv hE rfl
                clear hE
                refine endP T hS (sp := []) (ks := [0, 1, 2, 8, 9]) (bs := []) (sy' := ⟨[(0, I P), (1, I O), (2, V (.slice a1 S.length c1)), (8, V (.slice a136 (r_125 ++ [a_122]).length c137)), (9, I r_116)], []⟩) (by kernel_rfl) ?_
                intro a hS
                refine region (endP T hS (sp := []) (ks := [0, 1, 2, 8, 9]) (bs := []) (sy' := ⟨[(0, I P), (1, I O), (2, V (.slice a1 S.length c1)), (8, V (.slice a136 (r_125 ++ [a_122]).length c137)), (9, I (IntKind.i64.wrap (r_116 + 1)))], []⟩) (by kernel_rfl) ?_)
                intro a hS
                exact ⟨⟨r_125 ++ [a_122], IntKind.i64.wrap (r_116 + 1)⟩, ⟨ρ, _, a136, c137, hm.1, hS.sel [0, 1, 2, 8, 9] [] (by kernel_rfl), hO, h124, h135⟩, hm.2⟩
        · replace hm := hm.2 hb
          refine wexit (by rfl) ?_
          exact ⟨ρ, _, r_112, a113, c114, hm, hS.sel [8] [] (by kernel_rfl), hO, h115⟩
    · rintro a w184 ⟨ρ, χ183, r_105, a106, c107, hm, hS, hO, h108⟩
      unfold VC52_J1 at hm
      refine regP T hS (sp := []) (ks := [6, 7]) (bs := []) (sy' := ⟨[(6, V (.slice a106 r_105.length c107)), (7, B true)], []⟩) (by kernel_rfl) ?_
      intro a hS
      refine wret ?_
      obtain ⟨χ109, hE, hF⟩ := h108.freeze (by decide)
      replace hS := hS.ev hE (xone_box (by kernel_rfl))
      replace hO := hO.mv hE rfl rfl
      have h110 := hF; clear hE hF
      exact fin T hS hO (fun c => c) rfl (r := [.slice a106 r_105.length c107, .bool true]) (by kernel_rfl) (fun χ' hM hC => ⟨(r_105, true), hm, a106, c107, rfl, h110.m0 hM⟩)
theorem C52 (k22 : S22) (k71 : S71) (v : ∀ (P : Int) (O : Int) (S : List Bool), VC52 P O S (fun r => r = ref32_Order P O S)) : S52 := by
  intro w χ P O S a1 c1   h1
  refine (W52 k22 k71 w χ P O S a1 c1   _ (v P O S) h1).mono ?_
  rintro _ _ _ _ ⟨r, rfl, h⟩
  exact h
def S49 : Prop := ∀ (w : World) (χ : Nat → Nat) (vars : List Int) (a1 : Option Addr) (c1 : Nat), preMost vars → RS tI w χ a1 vars c1 → Ret Try.prog 49 #[.slice a1 vars.length c1] xnone w χ (fun w χ' v => ∃ (ra1 : Option Addr) (rc1 : Nat), v = .slice ra1 (places_Most vars).length rc1 ∧ RS (tSlice tI) w χ' ra1 (places_Most vars) rc1)
theorem hb49 : hasBody Try.prog 49 = true := by kernel_rfl
/-- replevin/places.Most -/
theorem W49 (w0 : World) (χ0 : Nat → Nat) (vars : List Int) (a1 : Option Addr) (c1 : Nat) (Q : (List (List Int)) → Prop) (hm : VC49 vars Q) (h1 : RS tI w0 χ0 a1 vars c1) :
    Ret Try.prog 49 #[.slice a1 vars.length c1] xnone w0 χ0 (fun w χ' v => ∃ r, Q r ∧ ∃ (ra1 : Option Addr) (rc1 : Nat), v = .slice ra1 r.length rc1 ∧ RS (tSlice tI) w χ' ra1 r rc1) := by
  unfold VC49 at hm
  replace hm := hm (h1.sm (by kernel_rfl))
  refine enter Try.func49 rfl (vals := [.slice a1 vars.length c1]) (by kernel_rfl) ?_
  intro ρ a hS hO hM
  replace h1 := h1.m0 hM
  clear hM
  refine regP T hS (sp := []) (ks := [0]) (bs := []) (sy' := ⟨[(0, V (.slice a1 vars.length c1))], []⟩) (by kernel_rfl) ?_
  intro a hS
  refine regP T hS (sp := []) (ks := [0, 3]) (bs := []) (sy' := ⟨[(0, V (.slice a1 vars.length c1)), (3, V (.slice none 0 0))], []⟩) (by kernel_rfl) ?_
  intro a hS
  refine wcut (fun a w => ∃ (ρ : Nat → Nat) (χ : Nat → Nat) (out_101 : List (List Int)) (a102 : Option Addr) (c103 : Nat), VC49_J1 Q out_101 ∧ St Try.f49.ntmps ⟨[(3, V (.slice a102 out_101.length c103))], []⟩ ρ a w χ ∧ Old w0 χ0 w χ ∧ OS (tSlice tI) 42 w χ 1003 a102 out_101 c103) ?_ ?_
  · refine regP T hS (sp := []) (ks := [0, 3, 8, 9, 10]) (bs := []) (sy' := ⟨[(0, V (.slice a1 vars.length c1)), (3, V (.slice none 0 0)), (8, V (.slice a1 vars.length c1)), (9, I ((vars.length : Nat) : Int)), (10, I 0)], []⟩) (by kernel_rfl) ?_
    intro a hS
    refine wblock ?_
    obtain ⟨I1, μ1, hm0, hm⟩ := hm
    refine wloop (σ := (List (List Int)) × Int) (fun s a w => ∃ (ρ : Nat → Nat) (χ : Nat → Nat) (a109 : Option Addr) (c110 : Nat), I1 s.1 s.2 ∧ St Try.f49.ntmps ⟨[(0, V (.slice a1 vars.length c1)), (3, V (.slice a109 s.1.length c110)), (8, V (.slice a1 vars.length c1)), (9, I ((vars.length : Nat) : Int)), (10, I s.2)], []⟩ ρ a w χ ∧ Old w0 χ0 w χ ∧ RS tI w χ a1 vars c1 ∧ OS (tSlice tI) 42 w χ 1003 a109 s.1 c110 ∧ RS tI w χ a1 vars c1) (fun s => μ1 s.1 s.2) (⟨[], 0⟩) ?_ ?_
    · exact ⟨ρ, _, none, 0, hm0, hS.sel [0, 3, 8, 9, 10] [] (by kernel_rfl), hO, h1, (OS.nil _ _ _ _ _), h1⟩
    · rintro ⟨out_108, x_113⟩ a w155 ⟨ρ, χ154, a109, c110, hI, hS, hO, h107, h111, h112⟩
      replace hm := hm out_108 x_113 hI
      clear hI hm0
      refine regP T hS (sp := []) (ks := [0, 3, 8, 9, 10, 11]) (bs := []) (sy' := ⟨[(0, V (.slice a1 vars.length c1)), (3, V (.slice a109 out_108.length c110)), (8, V (.slice a1 vars.length c1)), (9, I ((vars.length : Nat) : Int)), (10, I x_113), (11, B (decide (x_113 < ((vars.length : Nat) : Int))))], []⟩) (by kernel_rfl) ?_
      intro a hS
      refine wseq ?_
      refine wcond hS (b := decide (x_113 < ((vars.length : Nat) : Int))) (by kernel_rfl) (fun hb => ?_) (fun hb => ?_)
      · replace hm := hm.1 hb
        refine wskip ?_
        refine wcut (fun a w => ∃ (ρ : Nat → Nat) (χ : Nat → Nat) (out_115 : List (List Int)) (a116 : Option Addr) (c117 : Nat), VC49_J2 I1 μ1 out_108 x_113 out_115 ∧ St Try.f49.ntmps ⟨[(0, V (.slice a1 vars.length c1)), (3, V (.slice a116 out_115.length c117)), (8, V (.slice a1 vars.length c1)), (9, I ((vars.length : Nat) : Int)), (10, I x_113)], []⟩ ρ a w χ ∧ Old w0 χ0 w χ ∧ RS tI w χ a1 vars c1 ∧ OS (tSlice tI) 42 w χ 1003 a116 out_115 c117 ∧ RS tI w χ a1 vars c1) ?_ ?_
        · refine wblock ?_
          refine regO ?_
          refine opsP T hS 1 (sp := []) (ks := [0, 3, 8, 9, 10, 12]) (bs := []) (sy' := ⟨[(0, V (.slice a1 vars.length c1)), (3, V (.slice a109 out_108.length c110)), (8, V (.slice a1 vars.length c1)), (9, I ((vars.length : Nat) : Int)), (10, I x_113), (12, I x_113)], []⟩) (by kernel_rfl) ?_
          intro a hS
          obtain ⟨hq, hm⟩ := hm
          refine op1 (index (e := 3) (k := .i64) T hS (by kernel_rfl) (by kernel_rfl) (by kernel_rfl) (by kernel_rfl) h112 (by kernel_rfl) (by kernel_rfl) hq.1 hq.2 ?_)
          intro A120 a h121 hS
          clear hq
          refine op1 (load1 T hS (by kernel_rfl) (by kernel_rfl) (by kernel_rfl) h121 rfl (by kernel_rfl) ?_)
          intro v122 a hv hS
          cases hv
          refine endP T hS (sp := []) (ks := [0, 3, 4, 5, 8, 9, 10]) (bs := []) (sy' := ⟨[(0, V (.slice a1 vars.length c1)), (3, V (.slice a109 out_108.length c110)), (4, I x_113), (5, I (gi vars x_113)), (8, V (.slice a1 vars.length c1)), (9, I ((vars.length : Nat) : Int)), (10, I x_113)], []⟩) (by kernel_rfl) ?_
          intro a hS
          refine regO ?_
          refine opsP T hS 3 (sp := []) (ks := [0, 3, 5, 8, 9, 10, 15, 17]) (bs := []) (sy' := ⟨[(0, V (.slice a1 vars.length c1)), (3, V (.slice a109 out_108.length c110)), (5, I (gi vars x_113)), (8, V (.slice a1 vars.length c1)), (9, I ((vars.length : Nat) : Int)), (10, I x_113), (15, V (.slice a1 vars.length c1)), (17, I (IntKind.i64.wrap (x_113 + 1)))], []⟩) (by kernel_rfl) ?_
          intro a hS
          obtain ⟨hq, hm⟩ := hm
          refine op1 (slice1 (E := 3) (kl := .i64) T hS (by kernel_rfl) (by kernel_rfl) (by kernel_rfl) (by kernel_rfl) h107 (by kernel_rfl) (by kernel_rfl) hq.1 hq.2 ?_)
          intro a123 c124 a h125 hS
          clear hq
          refine endP T hS (sp := []) (ks := [0, 3, 5, 8, 9, 10, 18, 19, 20]) (bs := []) (sy' := ⟨[(0, V (.slice a1 vars.length c1)), (3, V (.slice a109 out_108.length c110)), (5, I (gi vars x_113)), (8, V (.slice a1 vars.length c1)), (9, I ((vars.length : Nat) : Int)), (10, I x_113), (18, V (.slice a123 (vars.drop (IntKind.i64.wrap (x_113 + 1)).toNat).length c124)), (19, I (((vars.drop (IntKind.i64.wrap (x_113 + 1)).toNat).length : Nat) : Int)), (20, I 0)], []⟩) (by kernel_rfl) ?_
          intro a hS
          refine wblock ?_
          obtain ⟨I2, μ2, hm0, hm⟩ := hm
          refine wloop (σ := (List (List Int)) × Int) (fun s a w => ∃ (ρ : Nat → Nat) (χ : Nat → Nat) (a128 : Option Addr) (c129 : Nat), I2 s.1 s.2 ∧ St Try.f49.ntmps ⟨[(0, V (.slice a1 vars.length c1)), (3, V (.slice a128 s.1.length c129)), (5, I (gi vars x_113)), (8, V (.slice a1 vars.length c1)), (9, I ((vars.length : Nat) : Int)), (10, I x_113), (18, V (.slice a123 (vars.drop (IntKind.i64.wrap (x_113 + 1)).toNat).length c124)), (19, I (((vars.drop (IntKind.i64.wrap (x_113 + 1)).toNat).length : Nat) : Int)), (20, I s.2)], []⟩ ρ a w χ ∧ Old w0 χ0 w χ ∧ RS tI w χ a1 vars c1 ∧ OS (tSlice tI) 42 w χ 1003 a128 s.1 c129 ∧ RS tI w χ a1 vars c1 ∧ RS tI w χ a123 (vars.drop (IntKind.i64.wrap (x_113 + 1)).toNat) c124) (fun s => μ2 s.1 s.2) (⟨out_108, 0⟩) ?_ ?_
          · exact ⟨ρ, _, a109, c110, hm0, hS.sel [0, 3, 5, 8, 9, 10, 18, 19, 20] [] (by kernel_rfl), hO, h107, h111, h112, h125⟩
          · rintro ⟨out_127, x_133⟩ a w151 ⟨ρ, χ150, a128, c129, hI, hS, hO, h126, h130, h131, h132⟩
            replace hm := hm out_127 x_133 hI
            clear hI hm0
            refine regP T hS (sp := []) (ks := [0, 3, 5, 8, 9, 10, 18, 19, 20, 21]) (bs := []) (sy' := ⟨[(0, V (.slice a1 vars.length c1)), (3, V (.slice a128 out_127.length c129)), (5, I (gi vars x_113)), (8, V (.slice a1 vars.length c1)), (9, I ((vars.length : Nat) : Int)), (10, I x_113), (18, V (.slice a123 (vars.drop (IntKind.i64.wrap (x_113 + 1)).toNat).length c124)), (19, I (((vars.drop (IntKind.i64.wrap (x_113 + 1)).toNat).length : Nat) : Int)), (20, I x_133), (21, B (decide (x_133 < (((vars.drop (IntKind.i64.wrap (x_113 + 1)).toNat).length : Nat) : Int))))], []⟩) (by kernel_rfl) ?_
            intro a hS
            refine wseq ?_
            refine wcond hS (b := decide (x_133 < (((vars.drop (IntKind.i64.wrap (x_113 + 1)).toNat).length : Nat) : Int))) (by kernel_rfl) (fun hb => ?_) (fun hb => ?_)
            · replace hm := hm.1 hb
              refine wskip ?_
              refine wseq ?_
              refine wblock ?_
              refine regO ?_
              obtain ⟨hq, hm⟩ := hm
              refine op1 (index (e := 3) (k := .i64) T hS (by kernel_rfl) (by kernel_rfl) (by kernel_rfl) (by kernel_rfl) h132 (by kernel_rfl) (by kernel_rfl) hq.1 hq.2 ?_)
              intro A134 a h135 hS
              clear hq
              refine op1 (load1 T hS (by kernel_rfl) (by kernel_rfl) (by kernel_rfl) h135 rfl (by kernel_rfl) ?_)
              intro v136 a hv hS
              cases hv
              refine endP T hS (sp := []) (ks := [0, 3, 5, 7, 8, 9, 10, 18, 19, 20]) (bs := []) (sy' := ⟨[(0, V (.slice a1 vars.length c1)), (3, V (.slice a128 out_127.length c129)), (5, I (gi vars x_113)), (7, I (gi (vars.drop (IntKind.i64.wrap (x_113 + 1)).toNat) x_133)), (8, V (.slice a1 vars.length c1)), (9, I ((vars.length : Nat) : Int)), (10, I x_113), (18, V (.slice a123 (vars.drop (IntKind.i64.wrap (x_113 + 1)).toNat).length c124)), (19, I (((vars.drop (IntKind.i64.wrap (x_113 + 1)).toNat).length : Nat) : Int)), (20, I x_133)], []⟩) (by kernel_rfl) ?_
              intro a hS
              refine region ?_
              refine opsP T hS 5 (sp := []) (ks := [0, 3, 5, 8, 9, 10, 18, 19, 20, 24, 26, 28]) (bs := []) (sy' := ⟨[(0, V (.slice a1 vars.length c1)), (3, V (.slice a128 out_127.length c129)), (5, I (gi vars x_113)), (8, V (.slice a1 vars.length c1)), (9, I ((vars.length : Nat) : Int)), (10, I x_113), (18, V (.slice a123 (vars.drop (IntKind.i64.wrap (x_113 + 1)).toNat).length c124)), (19, I (((vars.drop (IntKind.i64.wrap (x_113 + 1)).toNat).length : Nat) : Int)), (20, I x_133), (24, V (.slice a128 out_127.length c129)), (26, I (IntKind.i64.wrap (0 - (gi vars x_113)))), (28, I (IntKind.i64.wrap (0 - (gi (vars.drop (IntKind.i64.wrap (x_113 + 1)).toNat) x_133))))], []⟩) (by kernel_rfl) ?_
              intro a hS
              refine op1 (lit (E := 3) (col := 0) (T := tI) (vals := [.int .i64 (IntKind.i64.wrap (0 - (gi vars x_113))), .int .i64 (IntKind.i64.wrap (0 - (gi (vars.drop (IntKind.i64.wrap (x_113 + 1)).toNat) x_133)))]) (ys := [IntKind.i64.wrap (0 - (gi vars x_113)), IntKind.i64.wrap (0 - (gi (vars.drop (IntKind.i64.wrap (x_113 + 1)).toNat) x_133))]) T hS (by kernel_rfl) (by kernel_rfl) (by kernel_rfl) (by kernel_rfl) (by exact ⟨rfl, rfl, trivial⟩) rfl (by kernel_rfl) (by kernel_rfl) (by kernel_rfl) (by kernel_rfl) ?_)
              intro b137 a w138 χ139 hE h140 hN hS
              clear hN
              replace hO := hO.mv hE rfl rfl
              replace h126 := h126.mv hE rfl
              replace h130 := h130.mv hE rfl rfl
              replace h131 := h131.mv hE rfl
              replace h132 := h132.mv hE rfl
              clear hE
              replace h140 := h140.rs0
              refine op1 (lit (E := 42) (col := 0) (T := (tSlice tI)) (vals := [.slice (some ⟨b137, 0, none⟩) [IntKind.i64.wrap (0 - (gi vars x_113)), IntKind.i64.wrap (0 - (gi (vars.drop (IntKind.i64.wrap (x_113 + 1)).toNat) x_133))].length 2]) (ys := [[IntKind.i64.wrap (0 - (gi vars x_113)), IntKind.i64.wrap (0 - (gi (vars.drop (IntKind.i64.wrap (x_113 + 1)).toNat) x_133))]]) T hS (by kernel_rfl) (by kernel_rfl) (by kernel_rfl) (by kernel_rfl) (by exact ⟨⟨(some ⟨b137, 0, none⟩), 2, rfl, h140⟩, trivial⟩) rfl (by kernel_rfl) (by kernel_rfl) (by kernel_rfl) (by kernel_rfl) ?_)
              intro b141 a w142 χ143 hE h144 hN hS
              clear hN
              replace hO := hO.mv hE rfl rfl
              replace h126 := h126.mv hE rfl
              replace h130 := h130.mv hE rfl rfl
              replace h131 := h131.mv hE rfl
              replace h132 := h132.mv hE rfl
              replace h140 := h140.mv hE rfl
              clear hE
              replace h144 := h144.rs0
              obtain ⟨hq, hm⟩ := hm
              obtain ⟨news, hN⟩ := h144.src
              refine op1 (append (E := 42) (T := (tSlice tI)) (col := 1003) (xs := out_127) T hS (by kernel_rfl) (by kernel_rfl) (by kernel_rfl) (by kernel_rfl) h130 hN (by kernel_rfl) (by kernel_rfl) (by kernel_rfl) (by kernel_rfl) hq ?_)
              intro a148 c149 a w145 χ146 hE h147 hS
              clear hq hN
              clear h130
              replace hO := hO.mv hE rfl rfl
              replace h126 := h126.mv hE rfl
              replace h131 := h131.mv hE rfl
              replace h132 := h132.mv hE rfl
              replace h140 := h140.mv hE rfl
              replace h144 := h144.mv hE rfl
              clear hE
              refine endP T hS (sp := []) (ks := [0, 3, 5, 8, 9, 10, 18, 19, 20]) (bs := []) (sy' := ⟨[(0, V (.slice a1 vars.length c1)), (3, V (.slice a148 (out_127 ++ [[IntKind.i64.wrap (0 - (gi vars x_113)), IntKind.i64.wrap (0 - (gi (vars.drop (IntKind.i64.wrap (x_113 + 1)).toNat) x_133))]]).length c149)), (5, I (gi vars x_113)), (8, V (.slice a1 vars.length c1)), (9, I ((vars.length : Nat) : Int)), (10, I x_113), (18, V (.slice a123 (vars.drop (IntKind.i64.wrap (x_113 + 1)).toNat).length c124)), (19, I (((vars.drop (IntKind.i64.wrap (x_113 + 1)).toNat).length : Nat) : Int)), (20, I x_133)], []⟩) (by kernel_rfl) ?_
              intro a hS
              refine region (endP T hS (sp := []) (ks := [0, 3, 5, 8, 9, 10, 18, 19, 20]) (bs := []) (sy' := ⟨[(0, V (.slice a1 vars.length c1)), (3, V (.slice a148 (out_127 ++ [[IntKind.i64.wrap (0 - (gi vars x_113)), IntKind.i64.wrap (0 - (gi (vars.drop (IntKind.i64.wrap (x_113 + 1)).toNat) x_133))]]).length c149)), (5, I (gi vars x_113)), (8, V (.slice a1 vars.length c1)), (9, I ((vars.length : Nat) : Int)), (10, I x_113), (18, V (.slice a123 (vars.drop (IntKind.i64.wrap (x_113 + 1)).toNat).length c124)), (19, I (((vars.drop (IntKind.i64.wrap (x_113 + 1)).toNat).length : Nat) : Int)), (20, I (IntKind.i64.wrap (x_133 + 1)))], []⟩) (by kernel_rfl) ?_)
              intro a hS
              exact ⟨⟨out_127 ++ [[IntKind.i64.wrap (0 - (gi vars x_113)), IntKind.i64.wrap (0 - (gi (vars.drop (IntKind.i64.wrap (x_113 + 1)).toNat) x_133))]], IntKind.i64.wrap (x_133 + 1)⟩, ⟨ρ, _, a148, c149, hm.1, hS.sel [0, 3, 5, 8, 9, 10, 18, 19, 20] [] (by kernel_rfl), hO, h126, h147, h131, h132⟩, hm.2⟩
            · replace hm := hm.2 hb
              refine wexit (by rfl) ?_
              exact ⟨ρ, _, out_127, a128, c129, hm, hS.sel [0, 3, 8, 9, 10] [] (by kernel_rfl), hO, h126, h130, h131⟩
        · rintro a w153 ⟨ρ, χ152, out_115, a116, c117, hm, hS, hO, h114, h118, h119⟩
          unfold VC49_J2 at hm
          refine region (endP T hS (sp := []) (ks := [0, 3, 8, 9, 10]) (bs := []) (sy' := ⟨[(0, V (.slice a1 vars.length c1)), (3, V (.slice a116 out_115.length c117)), (8, V (.slice a1 vars.length c1)), (9, I ((vars.length : Nat) : Int)), (10, I (IntKind.i64.wrap (x_113 + 1)))], []⟩) (by kernel_rfl) ?_)
          intro a hS
          exact ⟨⟨out_115, IntKind.i64.wrap (x_113 + 1)⟩, ⟨ρ, _, a116, c117, hm.1, hS.sel [0, 3, 8, 9, 10] [] (by kernel_rfl), hO, h114, h118, h119⟩, hm.2⟩
      · replace hm := hm.2 hb
        refine wexit (by rfl) ?_
        exact ⟨ρ, _, out_108, a109, c110, hm, hS.sel [3] [] (by kernel_rfl), hO, h111⟩
  · rintro a w157 ⟨ρ, χ156, out_101, a102, c103, hm, hS, hO, h104⟩
    unfold VC49_J1 at hm
    refine regP T hS (sp := []) (ks := [2]) (bs := []) (sy' := ⟨[(2, V (.slice a102 out_101.length c103))], []⟩) (by kernel_rfl) ?_
    intro a hS
    refine wret ?_
    obtain ⟨χ105, hE, hF⟩ := h104.freeze (by decide)
    replace hS := hS.ev hE (xone_box (by kernel_rfl))
    replace hO := hO.mv hE rfl rfl
    have h106 := hF; clear hE hF
    exact fin T hS hO (fun c => c) rfl (r := [.slice a102 out_101.length c103]) (by kernel_rfl) (fun χ' hM hC => ⟨out_101, hm, a102, c103, rfl, h106.m0 hM⟩)
theorem C49 (v : ∀ (vars : List Int), preMost vars → VC49 vars (fun r => r = places_Most vars)) : S49 := by
  intro w χ vars a1 c1   hp h1
  refine (W49 w χ vars a1 c1   _ (v vars hp) h1).mono ?_
  rintro _ _ _ _ ⟨r, rfl, h⟩
  exact h
def S50 : Prop := ∀ (w : World) (χ : Nat → Nat) (l_ : List Int) (a1 : Option Addr) (c1 : Nat), preMost l_ → RS tI w χ a1 l_ c1 → Ret Try.prog 50 #[.slice a1 l_.length c1] xnone w χ (fun w χ' v => ∃ (ra1 : Option Addr) (rc1 : Nat), v = .slice ra1 (ref32_Most l_).length rc1 ∧ RS (tSlice tI) w χ' ra1 (ref32_Most l_) rc1)
theorem hb50 : hasBody Try.prog 50 = true := by kernel_rfl
/-- replevin/replevinref32.Most -/
theorem W50 (w0 : World) (χ0 : Nat → Nat) (l_ : List Int) (a1 : Option Addr) (c1 : Nat) (Q : (List (List Int)) → Prop) (hm : VC50 l_ Q) (h1 : RS tI w0 χ0 a1 l_ c1) :
    Ret Try.prog 50 #[.slice a1 l_.length c1] xnone w0 χ0 (fun w χ' v => ∃ r, Q r ∧ ∃ (ra1 : Option Addr) (rc1 : Nat), v = .slice ra1 r.length rc1 ∧ RS (tSlice tI) w χ' ra1 r rc1) := by
  unfold VC50 at hm
  replace hm := hm (h1.sm (by kernel_rfl))
  refine enter Try.func50 rfl (vals := [.slice a1 l_.length c1]) (by kernel_rfl) ?_
  intro ρ a hS hO hM
  replace h1 := h1.m0 hM
  clear hM
  refine regP T hS (sp := []) (ks := [0]) (bs := []) (sy' := ⟨[(0, V (.slice a1 l_.length c1))], []⟩) (by kernel_rfl) ?_
  intro a hS
  refine regP T hS (sp := []) (ks := [0, 3]) (bs := []) (sy' := ⟨[(0, V (.slice a1 l_.length c1)), (3, V (.slice none 0 0))], []⟩) (by kernel_rfl) ?_
  intro a hS
  refine wcut (fun a w => ∃ (ρ : Nat → Nat) (χ : Nat → Nat) (out_101 : List (List Int)) (a102 : Option Addr) (c103 : Nat), VC50_J1 Q out_101 ∧ St Try.f50.ntmps ⟨[(3, V (.slice a102 out_101.length c103))], []⟩ ρ a w χ ∧ Old w0 χ0 w χ ∧ OS (tSlice tI) 42 w χ 1003 a102 out_101 c103) ?_ ?_
  · refine regP T hS (sp := []) (ks := [0, 3, 4]) (bs := []) (sy' := ⟨[(0, V (.slice a1 l_.length c1)), (3, V (.slice none 0 0)), (4, I 0)], []⟩) (by kernel_rfl) ?_
    intro a hS
    refine wblock ?_
    obtain ⟨I1, μ1, hm0, hm⟩ := hm
    refine wloop (σ := (List (List Int)) × Int) (fun s a w => ∃ (ρ : Nat → Nat) (χ : Nat → Nat) (a109 : Option Addr) (c110 : Nat), I1 s.1 s.2 ∧ St Try.f50.ntmps ⟨[(0, V (.slice a1 l_.length c1)), (3, V (.slice a109 s.1.length c110)), (4, I s.2)], []⟩ ρ a w χ ∧ Old w0 χ0 w χ ∧ RS tI w χ a1 l_ c1 ∧ OS (tSlice tI) 42 w χ 1003 a109 s.1 c110) (fun s => μ1 s.1 s.2) (⟨[], 0⟩) ?_ ?_
    · exact ⟨ρ, _, none, 0, hm0, hS.sel [0, 3, 4] [] (by kernel_rfl), hO, h1, (OS.nil _ _ _ _ _)⟩
    · rintro ⟨out_108, i_112⟩ a w149 ⟨ρ, χ148, a109, c110, hI, hS, hO, h107, h111⟩
      replace hm := hm out_108 i_112 hI
      clear hI hm0
      refine wseq ?_
      refine regP T hS (sp := []) (ks := [0, 3, 4, 9]) (bs := []) (sy' := ⟨[(0, V (.slice a1 l_.length c1)), (3, V (.slice a109 out_108.length c110)), (4, I i_112), (9, B (decide (i_112 < ((l_.length : Nat) : Int))))], []⟩) (by kernel_rfl) ?_
      intro a hS
      refine wcond hS (b := decide (i_112 < ((l_.length : Nat) : Int))) (by kernel_rfl) (fun hb => ?_) (fun hb => ?_)
      · replace hm := hm.1 hb
        refine wskip ?_
        refine wcut (fun a w => ∃ (ρ : Nat → Nat) (χ : Nat → Nat) (out_114 : List (List Int)) (a115 : Option Addr) (c116 : Nat), VC50_J2 I1 μ1 out_108 i_112 out_114 ∧ St Try.f50.ntmps ⟨[(0, V (.slice a1 l_.length c1)), (3, V (.slice a115 out_114.length c116)), (4, I i_112)], []⟩ ρ a w χ ∧ Old w0 χ0 w χ ∧ RS tI w χ a1 l_ c1 ∧ OS (tSlice tI) 42 w χ 1003 a115 out_114 c116) ?_ ?_
        · refine wblock ?_
          refine regP T hS (sp := []) (ks := [0, 3, 4, 5]) (bs := []) (sy' := ⟨[(0, V (.slice a1 l_.length c1)), (3, V (.slice a109 out_108.length c110)), (4, I i_112), (5, I (IntKind.i64.wrap (i_112 + 1)))], []⟩) (by kernel_rfl) ?_
          intro a hS
          refine wblock ?_
          obtain ⟨I2, μ2, hm0, hm⟩ := hm
          refine wloop (σ := (List (List Int)) × Int) (fun s a w => ∃ (ρ : Nat → Nat) (χ : Nat → Nat) (a120 : Option Addr) (c121 : Nat), I2 s.1 s.2 ∧ St Try.f50.ntmps ⟨[(0, V (.slice a1 l_.length c1)), (3, V (.slice a120 s.1.length c121)), (4, I i_112), (5, I s.2)], []⟩ ρ a w χ ∧ Old w0 χ0 w χ ∧ RS tI w χ a1 l_ c1 ∧ OS (tSlice tI) 42 w χ 1003 a120 s.1 c121) (fun s => μ2 s.1 s.2) (⟨out_108, IntKind.i64.wrap (i_112 + 1)⟩) ?_ ?_
          · exact ⟨ρ, _, a109, c110, hm0, hS.sel [0, 3, 4, 5] [] (by kernel_rfl), hO, h107, h111⟩
          · rintro ⟨out_119, k_123⟩ a w145 ⟨ρ, χ144, a120, c121, hI, hS, hO, h118, h122⟩
            replace hm := hm out_119 k_123 hI
            clear hI hm0
            refine wseq ?_
            refine regP T hS (sp := []) (ks := [0, 3, 4, 5, 17]) (bs := []) (sy' := ⟨[(0, V (.slice a1 l_.length c1)), (3, V (.slice a120 out_119.length c121)), (4, I i_112), (5, I k_123), (17, B (decide (k_123 < ((l_.length : Nat) : Int))))], []⟩) (by kernel_rfl) ?_
            intro a hS
            refine wcond hS (b := decide (k_123 < ((l_.length : Nat) : Int))) (by kernel_rfl) (fun hb => ?_) (fun hb => ?_)
            · replace hm := hm.1 hb
              refine wskip ?_
              refine wseq ?_
              refine wblock ?_
              refine drawn [] mixed hS ?_
              intro w124 hS hE hD hH
              replace hO := hO.mv hE rfl rfl
              replace h118 := h118.mv hE rfl
              replace h122 := h122.mv hE rfl rfl
              clear hE
              refine take T [0, 1, 2, 6, 7] [] [0, 3, 4, 5, 20, 21, 22, 26, 27] hS (by kernel_rfl) (by kernel_rfl) (by kernel_rfl) hH (listed' := #[true, true, true, false, false, false, true, true, false, false, false, false, false, false, false]) (fuel := 10) (sy' := ⟨[(0, V (.slice a1 l_.length c1)), (3, V (.slice a120 out_119.length c121)), (4, I i_112), (5, I k_123), (20, V (.slice a120 out_119.length c121)), (21, V (.slice a1 l_.length c1)), (22, I i_112), (26, V (.slice a1 l_.length c1)), (27, I k_123)], []⟩) (by kernel_rfl) (by rfl) ?_
              intro a hS
              obtain ⟨hq, hm⟩ := hm
              refine dindex (e := 3) (k := .i64) T 3 hS (by kernel_rfl) (by kernel_rfl) (by kernel_rfl) (by rfl) (by kernel_rfl) hH (by kernel_rfl) (by kernel_rfl) h118 (by kernel_rfl) (by kernel_rfl) hq.1 hq.2 ?_
              intro A125 a h126 hS
              clear hq
              have h126b := h126.here
              refine dload1 T 4 hS (by kernel_rfl) (by kernel_rfl) (by kernel_rfl) (by rfl) (by kernel_rfl) hH (by kernel_rfl) h126 h126b rfl (by kernel_rfl) ?_
              intro v127 a hv hS
              cases hv
              refine take T [5] [] [0, 3, 4, 5, 20, 25, 26, 27] hS (by kernel_rfl) (by kernel_rfl) (by kernel_rfl) hH (listed' := #[true, true, true, true, true, true, true, true, false, false, false, false, false, false, false]) (fuel := 7) (sy' := ⟨[(0, V (.slice a1 l_.length c1)), (3, V (.slice a120 out_119.length c121)), (4, I i_112), (5, I k_123), (20, V (.slice a120 out_119.length c121)), (25, I (IntKind.i64.wrap (0 - (gi l_ i_112)))), (26, V (.slice a1 l_.length c1)), (27, I k_123)], []⟩) (by kernel_rfl) (by rfl) ?_
              intro a hS
              obtain ⟨hq, hm⟩ := hm
              refine dindex (e := 3) (k := .i64) T 8 hS (by kernel_rfl) (by kernel_rfl) (by kernel_rfl) (by rfl) (by kernel_rfl) hH (by kernel_rfl) (by kernel_rfl) h118 (by kernel_rfl) (by kernel_rfl) hq.1 hq.2 ?_
              intro A128 a h129 hS
              clear hq
              have h129b := h129.here
              refine dload1 T 9 hS (by kernel_rfl) (by kernel_rfl) (by kernel_rfl) (by rfl) (by kernel_rfl) hH (by kernel_rfl) h129 h129b rfl (by kernel_rfl) ?_
              intro v130 a hv hS
              cases hv
              refine take T [10] [] [0, 3, 4, 5, 20, 25, 30] hS (by kernel_rfl) (by kernel_rfl) (by kernel_rfl) hH (listed' := #[true, true, true, true, true, true, true, true, true, true, true, false, false, false, false]) (fuel := 4) (sy' := ⟨[(0, V (.slice a1 l_.length c1)), (3, V (.slice a120 out_119.length c121)), (4, I i_112), (5, I k_123), (20, V (.slice a120 out_119.length c121)), (25, I (IntKind.i64.wrap (0 - (gi l_ i_112)))), (30, I (IntKind.i64.wrap (0 - (gi l_ k_123))))], []⟩) (by kernel_rfl) (by rfl) ?_
              intro a hS
              refine only 11 (by kernel_rfl) (by rfl) (lit (E := 3) (col := 0) (T := tI) (vals := [.int .i64 (IntKind.i64.wrap (0 - (gi l_ i_112))), .int .i64 (IntKind.i64.wrap (0 - (gi l_ k_123)))]) (ys := [IntKind.i64.wrap (0 - (gi l_ i_112)), IntKind.i64.wrap (0 - (gi l_ k_123))]) T hS (by kernel_rfl) (by kernel_rfl) (by kernel_rfl) (by kernel_rfl) (by exact ⟨rfl, rfl, trivial⟩) rfl (by kernel_rfl) (by kernel_rfl) (by kernel_rfl) (by kernel_rfl) ?_)
              intro b131 a w132 χ133 hE h134 hN hS
              clear hN
              replace hO := hO.mv hE rfl rfl
              replace hD := hD.ev hE rfl
              replace h118 := h118.mv hE rfl
              replace h122 := h122.mv hE rfl rfl
              replace h126 := h126.mv hE rfl
              replace h129 := h129.mv hE rfl
              clear hE
              replace h134 := h134.rs0
              refine andH (Hold.of hS (bks := []) (by kernel_rfl) hD) ?_
              intro hH
              refine only 12 (by kernel_rfl) (by rfl) (lit (E := 42) (col := 0) (T := (tSlice tI)) (vals := [.slice (some ⟨b131, 0, none⟩) [IntKind.i64.wrap (0 - (gi l_ i_112)), IntKind.i64.wrap (0 - (gi l_ k_123))].length 2]) (ys := [[IntKind.i64.wrap (0 - (gi l_ i_112)), IntKind.i64.wrap (0 - (gi l_ k_123))]]) T hS (by kernel_rfl) (by kernel_rfl) (by kernel_rfl) (by kernel_rfl) (by exact ⟨⟨(some ⟨b131, 0, none⟩), 2, rfl, h134⟩, trivial⟩) rfl (by kernel_rfl) (by kernel_rfl) (by kernel_rfl) (by kernel_rfl) ?_)
              intro b135 a w136 χ137 hE h138 hN hS
              clear hN
              replace hO := hO.mv hE rfl rfl
              replace hD := hD.ev hE rfl
              replace h118 := h118.mv hE rfl
              replace h122 := h122.mv hE rfl rfl
              replace h126 := h126.mv hE rfl
              replace h129 := h129.mv hE rfl
              replace h134 := h134.mv hE rfl
              clear hE
              replace h138 := h138.rs0
              refine andH (Hold.of hS (bks := []) (by kernel_rfl) hD) ?_
              intro hH
              obtain ⟨hq, hm⟩ := hm
              obtain ⟨news, hN⟩ := h138.src
              refine only 13 (by kernel_rfl) (by rfl) (append (E := 42) (T := (tSlice tI)) (col := 1003) (xs := out_119) T hS (by kernel_rfl) (by kernel_rfl) (by kernel_rfl) (by kernel_rfl) h122 hN (by kernel_rfl) (by kernel_rfl) (by kernel_rfl) (by kernel_rfl) hq ?_)
              intro a142 c143 a w139 χ140 hE h141 hS
              clear hq hN
              clear h122
              replace hO := hO.mv hE rfl rfl
              replace hD := hD.ev hE rfl
              replace h118 := h118.mv hE rfl
              replace h126 := h126.mv hE rfl
              replace h129 := h129.mv hE rfl
              replace h134 := h134.mv hE rfl
              replace h138 := h138.mv hE rfl
              clear hE
              refine andH (Hold.of hS (bks := []) (by kernel_rfl) hD) ?_
              intro hH
              refine take T [14] [] [0, 3, 4, 5] hS (by kernel_rfl) (by kernel_rfl) (by kernel_rfl) hH (listed' := #[true, true, true, true, true, true, true, true, true, true, true, true, true, true, true]) (fuel := 0) (sy' := ⟨[(0, V (.slice a1 l_.length c1)), (3, V (.slice a142 (out_119 ++ [[IntKind.i64.wrap (0 - (gi l_ i_112)), IntKind.i64.wrap (0 - (gi l_ k_123))]]).length c143)), (4, I i_112), (5, I k_123)], []⟩) (by kernel_rfl) (by rfl) ?_
              intro a hS
              refine drawnDone (by kernel_rfl) ?_
              clear hD hH
              replace hS := hS.sel [0, 3, 4, 5] [] (sy' := ⟨[(0, V (.slice a1 l_.length c1)), (3, V (.slice a142 (out_119 ++ [[IntKind.i64.wrap (0 - (gi l_ i_112)), IntKind.i64.wrap (0 - (gi l_ k_123))]]).length c143)), (4, I i_112), (5, I k_123)], []⟩) (by kernel_rfl)
              refine region (endP T hS (sp := []) (ks := [0, 3, 4, 5]) (bs := []) (sy' := ⟨[(0, V (.slice a1 l_.length c1)), (3, V (.slice a142 (out_119 ++ [[IntKind.i64.wrap (0 - (gi l_ i_112)), IntKind.i64.wrap (0 - (gi l_ k_123))]]).length c143)), (4, I i_112), (5, I (IntKind.i64.wrap (k_123 + 1)))], []⟩) (by kernel_rfl) ?_)
              intro a hS
              exact ⟨⟨out_119 ++ [[IntKind.i64.wrap (0 - (gi l_ i_112)), IntKind.i64.wrap (0 - (gi l_ k_123))]], IntKind.i64.wrap (k_123 + 1)⟩, ⟨ρ, _, a142, c143, hm.1, hS.sel [0, 3, 4, 5] [] (by kernel_rfl), hO, h118, h141⟩, hm.2⟩
            · replace hm := hm.2 hb
              refine wexit (by rfl) ?_
              exact ⟨ρ, _, out_119, a120, c121, hm, hS.sel [0, 3, 4] [] (by kernel_rfl), hO, h118, h122⟩
        · rintro a w147 ⟨ρ, χ146, out_114, a115, c116, hm, hS, hO, h113, h117⟩
          unfold VC50_J2 at hm
          refine region (endP T hS (sp := []) (ks := [0, 3, 4]) (bs := []) (sy' := ⟨[(0, V (.slice a1 l_.length c1)), (3, V (.slice a115 out_114.length c116)), (4, I (IntKind.i64.wrap (i_112 + 1)))], []⟩) (by kernel_rfl) ?_)
          intro a hS
          exact ⟨⟨out_114, IntKind.i64.wrap (i_112 + 1)⟩, ⟨ρ, _, a115, c116, hm.1, hS.sel [0, 3, 4] [] (by kernel_rfl), hO, h113, h117⟩, hm.2⟩
      · replace hm := hm.2 hb
        refine wexit (by rfl) ?_
        exact ⟨ρ, _, out_108, a109, c110, hm, hS.sel [3] [] (by kernel_rfl), hO, h111⟩
  · rintro a w151 ⟨ρ, χ150, out_101, a102, c103, hm, hS, hO, h104⟩
    unfold VC50_J1 at hm
    refine regP T hS (sp := []) (ks := [2]) (bs := []) (sy' := ⟨[(2, V (.slice a102 out_101.length c103))], []⟩) (by kernel_rfl) ?_
    intro a hS
    refine wret ?_
    obtain ⟨χ105, hE, hF⟩ := h104.freeze (by decide)
    replace hS := hS.ev hE (xone_box (by kernel_rfl))
    replace hO := hO.mv hE rfl rfl
    have h106 := hF; clear hE hF
    exact fin T hS hO (fun c => c) rfl (r := [.slice a102 out_101.length c103]) (by kernel_rfl) (fun χ' hM hC => ⟨out_101, hm, a102, c103, rfl, h106.m0 hM⟩)
theorem C50 (v : ∀ (l_ : List Int), preMost l_ → VC50 l_ (fun r => r = ref32_Most l_)) : S50 := by
  intro w χ l_ a1 c1   hp h1
  refine (W50 w χ l_ a1 c1   _ (v l_ hp) h1).mono ?_
  rintro _ _ _ _ ⟨r, rfl, h⟩
  exact h
def S74 : Prop := ∀ (w : World) (χ : Nat → Nat) (k_ : Int) (cap1 : Int) (b1 : Nat) (i1 : Nat), Cell w χ b1 i1 3 [.int .i64 cap1] → Apart [i1] → Ret Try.prog 74 #[.int .i64 k_, .pointer (some ⟨b1, 0, none⟩)] (pR [i1]) w χ (fun w χ' v => v = .agg #[.int .i64 ((places_Clauses_1 k_ cap1).Kind), .int .i64 ((places_Clauses_1 k_ cap1).A), .int .i64 ((places_Clauses_1 k_ cap1).B)] ∧ Cell w χ' b1 i1 3 [.int .i64 cap1])
theorem hb74 : hasBody Try.prog 74 = true := by kernel_rfl
/-- replevin/places.Clauses$1 -/
theorem W74 (w0 : World) (χ0 : Nat → Nat) (k_ : Int) (cap1 : Int) (b1 : Nat) (i1 : Nat) (Q : Numbering_Name → Prop) (hm : VC74 k_ cap1 Q) (hc1 : Cell w0 χ0 b1 i1 3 [.int .i64 cap1]) (hA : Apart [i1]) :
    Ret Try.prog 74 #[.int .i64 k_, .pointer (some ⟨b1, 0, none⟩)] (pR [i1]) w0 χ0 (fun w χ' v => ∃ r, Q r ∧ v = .agg #[.int .i64 r.Kind, .int .i64 r.A, .int .i64 r.B] ∧ Cell w χ' b1 i1 3 [.int .i64 cap1]) := by
  unfold VC74 at hm
  refine enterR Try.func74 rfl (f0of [(i1, 901)]) (fun id => (bif Nat.beq id 901 then b1 else 0)) (args := [I k_, Pt 901 0]) (bxs := [(901, (3, [I cap1]))]) (by kernel_rfl) rfl (BoxesOK.cons (by kernel_rfl) (hc1.map (f0of_at 0 hA.1 rfl)) BoxesOK.nil) (f0of_0 (fun q hq => (hA.2 q.1 (List.mem_map.2 ⟨q, hq, rfl⟩)).1)) ?_
  intro a hS hO hM
  have hP : Pin [(901, b1)] (fun id => (bif Nat.beq id 901 then b1 else 0)) := by intro q hq; simp at hq; rcases hq with rfl <;> rfl
  generalize (fun id => (bif Nat.beq id 901 then b1 else 0)) = ρ at hS hP
  clear hc1
  clear hM
  refine regM T hS (sp := []) (ks := [0, 1, 3]) (bs := [4, 901]) (sy' := ⟨[(0, I k_), (1, Pt 901 0), (3, Pt 4 0)], [(4, (25, [I 0, I 0, I 0])), (901, (3, [I cap1]))]⟩) (by kernel_rfl) ?_
  intro ρ a w103 χ104 hS hE hr
  replace hO := hO.mv hE rfl rfl
  replace hP := hP.mv hr (by kernel_rfl)
  clear hE hr
  refine regM T hS (sp := []) (ks := [3]) (bs := [4, 901]) (sy' := ⟨[(3, Pt 4 0)], [(4, (25, [I 1, I cap1, I k_])), (901, (3, [I cap1]))]⟩) (by kernel_rfl) ?_
  intro ρ a w101 χ102 hS hE hr
  replace hO := hO.mv hE rfl rfl
  replace hP := hP.mv hr (by kernel_rfl)
  clear hE hr
  refine wret ?_
  exact finR T hS hO (fun c h => f0of_zero (by kernel_rfl) h) (fun c h => f0of_else (l := [(i1, 901)]) h) (f1of [(i1, 901)]) rfl (r := [.agg #[.int .i64 1, .int .i64 cap1, .int .i64 k_]]) (by kernel_rfl) (fun χ' hM hC => ⟨(⟨1, cap1, k_⟩ : Numbering_Name), hm, rfl, ((hS.cell (id := 901) (t := 3) (cs := [I cap1]) (by kernel_rfl)).out (f := (f1of [(i1, 901)])) hC (by kernel_rfl) (by kernel_rfl) (hP.at 0 rfl))⟩)
theorem C74 (v : ∀ (k_ : Int) (cap1 : Int), VC74 k_ cap1 (fun r => r = places_Clauses_1 k_ cap1)) : S74 := by
  intro w χ k_ cap1   b1 i1 hc1 hA
  refine (W74 w χ k_ cap1   b1 i1 _ (v k_ cap1) hc1 hA).mono ?_
  rintro _ _ _ _ ⟨r, rfl, h⟩
  exact h
def S75 : Prop := ∀ (w : World) (χ : Nat → Nat) (a_ : Int) (cap1 : Int) (b1 : Nat) (i1 : Nat), Cell w χ b1 i1 3 [.int .i64 cap1] → Apart [i1] → Ret Try.prog 75 #[.int .i64 a_, .pointer (some ⟨b1, 0, none⟩)] (pR [i1]) w χ (fun w χ' v => v = .agg #[.int .i64 ((places_Clauses_2 a_ cap1).Kind), .int .i64 ((places_Clauses_2 a_ cap1).A), .int .i64 ((places_Clauses_2 a_ cap1).B)] ∧ Cell w χ' b1 i1 3 [.int .i64 cap1])
theorem hb75 : hasBody Try.prog 75 = true := by kernel_rfl
/-- replevin/places.Clauses$2 -/
theorem W75 (w0 : World) (χ0 : Nat → Nat) (a_ : Int) (cap1 : Int) (b1 : Nat) (i1 : Nat) (Q : Numbering_Name → Prop) (hm : VC75 a_ cap1 Q) (hc1 : Cell w0 χ0 b1 i1 3 [.int .i64 cap1]) (hA : Apart [i1]) :
    Ret Try.prog 75 #[.int .i64 a_, .pointer (some ⟨b1, 0, none⟩)] (pR [i1]) w0 χ0 (fun w χ' v => ∃ r, Q r ∧ v = .agg #[.int .i64 r.Kind, .int .i64 r.A, .int .i64 r.B] ∧ Cell w χ' b1 i1 3 [.int .i64 cap1]) := by
  unfold VC75 at hm
  refine enterR Try.func75 rfl (f0of [(i1, 901)]) (fun id => (bif Nat.beq id 901 then b1 else 0)) (args := [I a_, Pt 901 0]) (bxs := [(901, (3, [I cap1]))]) (by kernel_rfl) rfl (BoxesOK.cons (by kernel_rfl) (hc1.map (f0of_at 0 hA.1 rfl)) BoxesOK.nil) (f0of_0 (fun q hq => (hA.2 q.1 (List.mem_map.2 ⟨q, hq, rfl⟩)).1)) ?_
  intro a hS hO hM
  have hP : Pin [(901, b1)] (fun id => (bif Nat.beq id 901 then b1 else 0)) := by intro q hq; simp at hq; rcases hq with rfl <;> rfl
  generalize (fun id => (bif Nat.beq id 901 then b1 else 0)) = ρ at hS hP
  clear hc1
  clear hM
  refine regM T hS (sp := []) (ks := [0, 1, 3]) (bs := [4, 901]) (sy' := ⟨[(0, I a_), (1, Pt 901 0), (3, Pt 4 0)], [(4, (25, [I 0, I 0, I 0])), (901, (3, [I cap1]))]⟩) (by kernel_rfl) ?_
  intro ρ a w103 χ104 hS hE hr
  replace hO := hO.mv hE rfl rfl
  replace hP := hP.mv hr (by kernel_rfl)
  clear hE hr
  refine regM T hS (sp := []) (ks := [3]) (bs := [4, 901]) (sy' := ⟨[(3, Pt 4 0)], [(4, (25, [I 1, I a_, I cap1])), (901, (3, [I cap1]))]⟩) (by kernel_rfl) ?_
  intro ρ a w101 χ102 hS hE hr
  replace hO := hO.mv hE rfl rfl
  replace hP := hP.mv hr (by kernel_rfl)
  clear hE hr
  refine wret ?_
  exact finR T hS hO (fun c h => f0of_zero (by kernel_rfl) h) (fun c h => f0of_else (l := [(i1, 901)]) h) (f1of [(i1, 901)]) rfl (r := [.agg #[.int .i64 1, .int .i64 a_, .int .i64 cap1]]) (by kernel_rfl) (fun χ' hM hC => ⟨(⟨1, a_, cap1⟩ : Numbering_Name), hm, rfl, ((hS.cell (id := 901) (t := 3) (cs := [I cap1]) (by kernel_rfl)).out (f := (f1of [(i1, 901)])) hC (by kernel_rfl) (by kernel_rfl) (hP.at 0 rfl))⟩)
theorem C75 (v : ∀ (a_ : Int) (cap1 : Int), VC75 a_ cap1 (fun r => r = places_Clauses_2 a_ cap1)) : S75 := by
  intro w χ a_ cap1   b1 i1 hc1 hA
  refine (W75 w χ a_ cap1   b1 i1 _ (v a_ cap1) hc1 hA).mono ?_
  rintro _ _ _ _ ⟨r, rfl, h⟩
  exact h
def S73_74 : Prop := ∀ (w : World) (χ : Nat → Nat) (s_ : Numbering_Size) (cap1 : Int) (b1 : Nat) (i1 : Nat), preRowP s_ cap1 → Cell w χ b1 i1 3 [.int .i64 cap1] → Apart [i1] → Ret Try.prog 73 #[.agg #[.int .i64 s_.Ops, .int .i64 s_.States], .func (.func 74) #[] #[.pointer (some ⟨b1, 0, none⟩)]] (pR [i1]) w χ (fun w χ' v => ∃ (ra1 : Option Addr) (rc1 : Nat), v = .slice ra1 (places_row_places_Clauses_1 s_ cap1).length rc1 ∧ RS tI w χ' ra1 (places_row_places_Clauses_1 s_ cap1) rc1 ∧ Cell w χ' b1 i1 3 [.int .i64 cap1])
theorem hb73 : hasBody Try.prog 73 = true := by kernel_rfl
/-- replevin/places.row -/
theorem W73_74 (k24 : S24) (k74 : S74) (w0 : World) (χ0 : Nat → Nat) (s_ : Numbering_Size) (cap1 : Int) (b1 : Nat) (i1 : Nat) (Q : (List Int) → Prop) (hm : VC73_74 s_ cap1 Q) (hc1 : Cell w0 χ0 b1 i1 3 [.int .i64 cap1]) (hA : Apart [i1]) :
    Ret Try.prog 73 #[.agg #[.int .i64 s_.Ops, .int .i64 s_.States], .func (.func 74) #[] #[.pointer (some ⟨b1, 0, none⟩)]] (pR [i1]) w0 χ0 (fun w χ' v => ∃ r, Q r ∧ ∃ (ra1 : Option Addr) (rc1 : Nat), v = .slice ra1 r.length rc1 ∧ RS tI w χ' ra1 r rc1 ∧ Cell w χ' b1 i1 3 [.int .i64 cap1]) := by
  unfold VC73_74 at hm
  refine enterR Try.func73 rfl (f0of [(i1, 901)]) (fun id => (bif Nat.beq id 901 then b1 else 0)) (args := [V (.agg #[.int .i64 s_.Ops, .int .i64 s_.States]), .f (.func 74) [] [.p 901 0]]) (bxs := [(901, (3, [I cap1]))]) (by kernel_rfl) rfl (BoxesOK.cons (by kernel_rfl) (hc1.map (f0of_at 0 hA.1 rfl)) BoxesOK.nil) (f0of_0 (fun q hq => (hA.2 q.1 (List.mem_map.2 ⟨q, hq, rfl⟩)).1)) ?_
  intro a hS hO hM
  have hP : Pin [(901, b1)] (fun id => (bif Nat.beq id 901 then b1 else 0)) := by intro q hq; simp at hq; rcases hq with rfl <;> rfl
  generalize (fun id => (bif Nat.beq id 901 then b1 else 0)) = ρ at hS hP
  clear hc1
  clear hM
  refine regM T hS (sp := []) (ks := [1, 2]) (bs := [3, 901]) (sy' := ⟨[(1, .f (.func 74) [] [.p 901 0]), (2, Pt 3 0)], [(3, (23, [I s_.Ops, I s_.States])), (901, (3, [I cap1]))]⟩) (by kernel_rfl) ?_
  intro ρ a w136 χ137 hS hE hr
  replace hO := hO.mv hE rfl rfl
  replace hP := hP.mv hr (by kernel_rfl)
  clear hE hr
  refine regO ?_
  refine opsP T hS 2 (sp := []) (ks := [1, 2, 8]) (bs := [3, 901]) (sy' := ⟨[(1, .f (.func 74) [] [.p 901 0]), (2, Pt 3 0), (8, I s_.Ops)], [(3, (23, [I s_.Ops, I s_.States])), (901, (3, [I cap1]))]⟩) (by kernel_rfl) ?_
  intro a hS
  obtain ⟨hq, hm⟩ := hm
  refine op1 (make (E := 3) (kl := .i64) (kc := .i64) (col := 1005) (T := tI) T 0 hS (by kernel_rfl) (by kernel_rfl) (by kernel_rfl) (by kernel_rfl) (by kernel_rfl) (by kernel_rfl) hq.1 hq.2.1 (by have := hq.2.2; simp only [tI, tInt, tBool, tStr, tSlice]; omega) (by have := hq.2.2; omega) (fun _ _ => rfl) ?_)
  intro b101 a w102 χ103 hE h104 hN hS
  clear hq hN
  replace hO := hO.mv hE rfl rfl
  clear hE
  replace hS := hS.conv (t := 9) (y := .slice (some ⟨b101, 0, none⟩) (List.replicate s_.Ops.toNat (0 : Int)).length s_.Ops.toNat) (by kernel_rfl) (by rw [List.length_replicate])
  refine endP T hS (sp := []) (ks := [1, 2, 5]) (bs := [3, 901]) (sy' := ⟨[(1, .f (.func 74) [] [.p 901 0]), (2, Pt 3 0), (5, V (.slice (some ⟨b101, 0, none⟩) (List.replicate s_.Ops.toNat (0 : Int)).length s_.Ops.toNat))], [(3, (23, [I s_.Ops, I s_.States])), (901, (3, [I cap1]))]⟩) (by kernel_rfl) ?_
  intro a hS
  refine wcut (fun a w => ∃ (ρ : Nat → Nat) (χ : Nat → Nat) (out_105 : List Int) (a106 : Option Addr) (c107 : Nat), VC73_74_J1 Q out_105 ∧ St Try.f73.ntmps ⟨[(5, V (.slice a106 out_105.length c107))], [(901, (3, [I cap1]))]⟩ ρ a w χ ∧ OldR (f0of [(i1, 901)]) w0 χ0 w χ ∧ Pin [(901, b1)] ρ ∧ OS tI 3 w χ 1005 a106 out_105 c107) ?_ ?_
  · refine regP T hS (sp := []) (ks := [1, 2, 5, 11, 12]) (bs := [3, 901]) (sy' := ⟨[(1, .f (.func 74) [] [.p 901 0]), (2, Pt 3 0), (5, V (.slice (some ⟨b101, 0, none⟩) (List.replicate s_.Ops.toNat (0 : Int)).length s_.Ops.toNat)), (11, I (((List.replicate s_.Ops.toNat (0 : Int)).length : Nat) : Int)), (12, I 0)], [(3, (23, [I s_.Ops, I s_.States])), (901, (3, [I cap1]))]⟩) (by kernel_rfl) ?_
    intro a hS
    refine wblock ?_
    obtain ⟨I1, μ1, hm0, hm⟩ := hm
    refine wloop (σ := (List Int) × Int) (fun s a w => ∃ (ρ : Nat → Nat) (χ : Nat → Nat) (a112 : Option Addr) (c113 : Nat), I1 s.1 s.2 ∧ St Try.f73.ntmps ⟨[(1, .f (.func 74) [] [.p 901 0]), (2, Pt 3 0), (5, V (.slice a112 s.1.length c113)), (11, I (((List.replicate s_.Ops.toNat (0 : Int)).length : Nat) : Int)), (12, I s.2)], [(3, (23, [I s_.Ops, I s_.States])), (901, (3, [I cap1]))]⟩ ρ a w χ ∧ OldR (f0of [(i1, 901)]) w0 χ0 w χ ∧ Pin [(901, b1)] ρ ∧ OS tI 3 w χ 1005 a112 s.1 c113) (fun s => μ1 s.1 s.2) (⟨List.replicate s_.Ops.toNat (0 : Int), 0⟩) ?_ ?_
    · exact ⟨ρ, _, (some ⟨b101, 0, none⟩), s_.Ops.toNat, hm0, hS.sel [1, 2, 5, 11, 12] [3, 901] (by kernel_rfl), hO, hP, h104⟩
    · rintro ⟨out_111, x_115⟩ a w133 ⟨ρ, χ132, a112, c113, hI, hS, hO, hP, h114⟩
      replace hm := hm out_111 x_115 hI
      clear hI hm0
      refine regP T hS (sp := []) (ks := [1, 2, 5, 11, 12, 13]) (bs := [3, 901]) (sy' := ⟨[(1, .f (.func 74) [] [.p 901 0]), (2, Pt 3 0), (5, V (.slice a112 out_111.length c113)), (11, I (((List.replicate s_.Ops.toNat (0 : Int)).length : Nat) : Int)), (12, I x_115), (13, B (decide (x_115 < (((List.replicate s_.Ops.toNat (0 : Int)).length : Nat) : Int))))], [(3, (23, [I s_.Ops, I s_.States])), (901, (3, [I cap1]))]⟩) (by kernel_rfl) ?_
      intro a hS
      refine wseq ?_
      refine wcond hS (b := decide (x_115 < (((List.replicate s_.Ops.toNat (0 : Int)).length : Nat) : Int))) (by kernel_rfl) (fun hb => ?_) (fun hb => ?_)
      · replace hm := hm.1 hb
        refine wskip ?_
        refine wseq ?_
        refine wblock ?_
        refine regP T hS (sp := []) (ks := [1, 2, 5, 6, 11, 12]) (bs := [3, 901]) (sy' := ⟨[(1, .f (.func 74) [] [.p 901 0]), (2, Pt 3 0), (5, V (.slice a112 out_111.length c113)), (6, I x_115), (11, I (((List.replicate s_.Ops.toNat (0 : Int)).length : Nat) : Int)), (12, I x_115)], [(3, (23, [I s_.Ops, I s_.States])), (901, (3, [I cap1]))]⟩) (by kernel_rfl) ?_
        intro a hS
        refine drawn [3, 901] mixed hS ?_
        intro w116 hS hE hD hH
        replace hO := hO.mv hE rfl rfl
        replace h114 := h114.mv hE rfl rfl
        clear hE
        refine take T [0, 1, 2, 3, 4] [3, 901] [1, 2, 5, 11, 12, 15, 16, 17, 18, 19] hS (by kernel_rfl) (by kernel_rfl) (by kernel_rfl) hH (listed' := #[true, true, true, true, true, false, false, false, false]) (fuel := 4) (sy' := ⟨[(1, .f (.func 74) [] [.p 901 0]), (2, Pt 3 0), (5, V (.slice a112 out_111.length c113)), (11, I (((List.replicate s_.Ops.toNat (0 : Int)).length : Nat) : Int)), (12, I x_115), (15, V (.slice a112 out_111.length c113)), (16, I x_115), (17, V (.agg #[.int .i64 s_.Ops, .int .i64 s_.States])), (18, .f (.func 74) [] [.p 901 0]), (19, I x_115)], [(3, (23, [I s_.Ops, I s_.States])), (901, (3, [I cap1]))]⟩) (by kernel_rfl) (by rfl) ?_
        intro a hS
        refine only 5 (by kernel_rfl) (by rfl) (callCR (fi := []) (cp := [.p 901 0]) hS (by kernel_rfl) (by kernel_rfl) hb74 (by kernel_rfl) (by kernel_rfl) (k74 _ _ x_115 cap1 (ρ 901) 901 (hS.cell (id := 901) (t := 3) (cs := [I cap1]) (by kernel_rfl)) ⟨by decide, by decide⟩) ?_)
        intro v117 a w118 χ119 hE hp hS
        replace hO := hO.mv hE rfl rfl
        replace hD := hD.ev hE rfl
        replace h114 := h114.mv hE rfl rfl
        clear hE
        obtain ⟨hp, hc121⟩ := hp
        obtain ⟨r120, hr⟩ : ∃ r, places_Clauses_1 x_115 cap1 = r := ⟨_, rfl⟩
        replace hm := hm r120 hr
        rw [hr] at hp
        clear hr
        subst hp
        replace hS := hS.addbox (id := 901) (t := 3) (cs := [I cap1]) (by kernel_rfl) hc121
        clear hc121
        replace hS := hS.sel [1, 2, 5, 11, 12, 15, 16, 17, 18, 19, 20] [3, 901] (sy' := ⟨[(1, .f (.func 74) [] [.p 901 0]), (2, Pt 3 0), (5, V (.slice a112 out_111.length c113)), (11, I (((List.replicate s_.Ops.toNat (0 : Int)).length : Nat) : Int)), (12, I x_115), (15, V (.slice a112 out_111.length c113)), (16, I x_115), (17, V (.agg #[.int .i64 s_.Ops, .int .i64 s_.States])), (18, .f (.func 74) [] [.p 901 0]), (19, I x_115), (20, V (.agg #[.int .i64 r120.Kind, .int .i64 r120.A, .int .i64 r120.B]))], [(3, (23, [I s_.Ops, I s_.States])), (901, (3, [I cap1]))]⟩) (by kernel_rfl)
        refine andH (Hold.of hS (bks := [3, 901]) (by kernel_rfl) hD) ?_
        intro hH
        refine only 6 (by kernel_rfl) (by rfl) (call hS (by kernel_rfl) (by kernel_rfl) hb24 (by kernel_rfl) (fun _ _ => rfl) (k24 _ _ s_ r120) ?_)
        intro v122 a w123 χ124 hE hp hS
        replace hO := hO.mv hE rfl rfl
        replace hD := hD.ev hE rfl
        replace h114 := h114.mv hE rfl rfl
        clear hE
        obtain ⟨r125, hr⟩ : ∃ r, numbering_Var s_ r120 = r := ⟨_, rfl⟩
        replace hm := hm r125 hr
        rw [hr] at hp
        clear hr
        subst hp
        replace hS := hS.sel [1, 2, 5, 11, 12, 15, 16, 17, 18, 19, 20, 21] [3, 901] (sy' := ⟨[(1, .f (.func 74) [] [.p 901 0]), (2, Pt 3 0), (5, V (.slice a112 out_111.length c113)), (11, I (((List.replicate s_.Ops.toNat (0 : Int)).length : Nat) : Int)), (12, I x_115), (15, V (.slice a112 out_111.length c113)), (16, I x_115), (17, V (.agg #[.int .i64 s_.Ops, .int .i64 s_.States])), (18, .f (.func 74) [] [.p 901 0]), (19, I x_115), (20, V (.agg #[.int .i64 r120.Kind, .int .i64 r120.A, .int .i64 r120.B])), (21, I r125)], [(3, (23, [I s_.Ops, I s_.States])), (901, (3, [I cap1]))]⟩) (by kernel_rfl)
        refine andH (Hold.of hS (bks := [3, 901]) (by kernel_rfl) hD) ?_
        intro hH
        obtain ⟨hq129, hm⟩ := hm
        refine only 7 (by kernel_rfl) (by rfl) (indexX (E := 3) (k := .i64) T hS (by kernel_rfl) (by kernel_rfl) (by kernel_rfl) (by kernel_rfl) h114 (by kernel_rfl) (by kernel_rfl) hq129.1 hq129.2 ?_)
        intro A126 a h128 h127 hS
        refine andH (Hold.of hS (bks := [3, 901]) (by kernel_rfl) hD) ?_
        intro hH
        refine only 8 (by kernel_rfl) (by rfl) (storeO (x := r125) (v := I r125) (i := x_115.toNat) (E := 3) (xs := out_111) T hS (by kernel_rfl) (by kernel_rfl) (by kernel_rfl) (by kernel_rfl) h114 h128 (by have := hq129.1; have := hq129.2; omega) (by kernel_rfl) (fun _ _ _ => rfl) ?_)
        intro a w130 hE h131 hS
        clear h114 h128 h127 hq129
        replace hO := hO.mv hE rfl rfl
        replace hD := hD.ev hE rfl
        clear hE
        replace hS := hS.conv (t := 5) (y := .slice a112 (out_111.set x_115.toNat r125).length c113) (by kernel_rfl) (by rw [List.length_set])
        replace hS := hS.conv (t := 15) (y := .slice a112 (out_111.set x_115.toNat r125).length c113) (by kernel_rfl) (by rw [List.length_set])
        refine andH (Hold.of hS (bks := [3, 901]) (by kernel_rfl) hD) ?_
        intro hH
        refine drawnDone (by kernel_rfl) ?_
        clear hD hH
        replace hS := hS.sel [1, 2, 5, 11, 12] [3, 901] (sy' := ⟨[(1, .f (.func 74) [] [.p 901 0]), (2, Pt 3 0), (5, V (.slice a112 (out_111.set x_115.toNat r125).length c113)), (11, I (((List.replicate s_.Ops.toNat (0 : Int)).length : Nat) : Int)), (12, I x_115)], [(3, (23, [I s_.Ops, I s_.States])), (901, (3, [I cap1]))]⟩) (by kernel_rfl)
        refine region (endP T hS (sp := []) (ks := [1, 2, 5, 11, 12]) (bs := [3, 901]) (sy' := ⟨[(1, .f (.func 74) [] [.p 901 0]), (2, Pt 3 0), (5, V (.slice a112 (out_111.set x_115.toNat r125).length c113)), (11, I (((List.replicate s_.Ops.toNat (0 : Int)).length : Nat) : Int)), (12, I (IntKind.i64.wrap (x_115 + 1)))], [(3, (23, [I s_.Ops, I s_.States])), (901, (3, [I cap1]))]⟩) (by kernel_rfl) ?_)
        intro a hS
        exact ⟨⟨(out_111.set x_115.toNat r125), IntKind.i64.wrap (x_115 + 1)⟩, ⟨ρ, _, a112, c113, hm.1, hS.sel [1, 2, 5, 11, 12] [3, 901] (by kernel_rfl), hO, hP, h131⟩, hm.2⟩
      · replace hm := hm.2 hb
        refine wexit (by rfl) ?_
        exact ⟨ρ, _, out_111, a112, c113, hm, hS.sel [5] [901] (by kernel_rfl), hO, hP, h114⟩
  · rintro a w135 ⟨ρ, χ134, out_105, a106, c107, hm, hS, hO, hP, h108⟩
    unfold VC73_74_J1 at hm
    refine regP T hS (sp := []) (ks := [4]) (bs := [901]) (sy' := ⟨[(4, V (.slice a106 out_105.length c107))], [(901, (3, [I cap1]))]⟩) (by kernel_rfl) ?_
    intro a hS
    refine wret ?_
    obtain ⟨χ109, hE, hF⟩ := h108.freeze (by decide)
    replace hS := hS.ev hE (xone_box (by kernel_rfl))
    replace hO := hO.mv hE rfl rfl
    have h110 := hF; clear hE hF
    exact finR T hS hO (fun c h => f0of_zero (by kernel_rfl) h) (fun c h => f0of_else (l := [(i1, 901)]) h) (f1of [(i1, 901)]) rfl (r := [.slice a106 out_105.length c107]) (by kernel_rfl) (fun χ' hM hC => ⟨out_105, hm, a106, c107, rfl, h110.m0 hM, ((hS.cell (id := 901) (t := 3) (cs := [I cap1]) (by kernel_rfl)).out (f := (f1of [(i1, 901)])) hC (by kernel_rfl) (by kernel_rfl) (hP.at 0 rfl))⟩)
theorem C73_74 (k24 : S24) (k74 : S74) (v : ∀ (s_ : Numbering_Size) (cap1 : Int), preRowP s_ cap1 → VC73_74 s_ cap1 (fun r => r = places_row_places_Clauses_1 s_ cap1)) : S73_74 := by
  intro w χ s_ cap1   b1 i1 hp hc1 hA
  refine (W73_74 k24 k74 w χ s_ cap1   b1 i1 _ (v s_ cap1 hp) hc1 hA).mono ?_
  rintro _ _ _ _ ⟨r, rfl, h⟩
  exact h
end Go.Proofs.Ytlpcjbjlgeaapaa
