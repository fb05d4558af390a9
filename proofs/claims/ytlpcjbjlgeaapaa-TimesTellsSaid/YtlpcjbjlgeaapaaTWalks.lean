/- Walks: each function returns what its condition asks. Condition: the contracts of its callees, handed in. -/
import Derived.Test.YtlpcjbjlgeaapaaTVC
import Derived.Test.YtlpcjbjlgeaapaaTReps
set_option linter.all false
namespace Go.Proofs.Ytlpcjbjlgeaapaa
open Go Go.Sv
set_option maxHeartbeats 1000000
def S21 : Prop := ∀ (w : World) (χ : Nat → Nat) (s_ : Numbering_Size), Ret Try.prog 21 #[.agg #[.int .i64 s_.Ops, .int .i64 s_.States]] xnone w χ (fun w χ' v => v = .int .i64 (numbering_Check s_))
theorem hb21 : hasBody Try.prog 21 = true := by kernel_rfl
/-- replevin/numbering.Check -/
theorem W21 (w0 : World) (χ0 : Nat → Nat) (s_ : Numbering_Size) (Q : Int → Prop) (hm : VC21 s_ Q) :
    Ret Try.prog 21 #[.agg #[.int .i64 s_.Ops, .int .i64 s_.States]] xnone w0 χ0 (fun w χ' v => ∃ r, Q r ∧ v = .int .i64 r) := by
  unfold VC21 at hm
  refine enter Try.func21 rfl (vals := [.agg #[.int .i64 s_.Ops, .int .i64 s_.States]]) (by kernel_rfl) ?_
  intro ρ a hS hO hM
  clear hM
  refine regM T hS (sp := []) (ks := [1]) (bs := [2]) (sy' := ⟨[(1, Pt 2 0)], [(2, (23, [I s_.Ops, I s_.States]))]⟩) (by kernel_rfl) ?_
  intro ρ a w101 χ102 hS hE hr
  replace hO := hO.mv hE rfl rfl
  clear hE hr
  refine wseq ?_
  refine regP T hS (sp := [6, 11, 16]) (ks := [20]) (bs := []) (sy' := ⟨[(20, B ((((decide (s_.Ops < 0)) || (decide (s_.Ops > 64))) || (decide (s_.States < 1))) || (decide (s_.States > 32))))], []⟩) (by kernel_rfl) ?_
  intro a hS
  refine wcond hS (b := ((((decide (s_.Ops < 0)) || (decide (s_.Ops > 64))) || (decide (s_.States < 1))) || (decide (s_.States > 32)))) (by kernel_rfl) (fun hb => ?_) (fun hb => ?_)
  · replace hm := hm.1 hb
    refine regP T hS (sp := []) (ks := [2]) (bs := []) (sy' := ⟨[(2, I 2)], []⟩) (by kernel_rfl) ?_
    intro a hS
    refine wret ?_
    exact fin T hS hO (fun c => c) rfl (r := [.int .i64 2]) (by kernel_rfl) (fun χ' hM hC => ⟨2, hm, rfl⟩)
  · replace hm := hm.2 hb
    refine wskip ?_
    refine regP T hS (sp := []) (ks := [2]) (bs := []) (sy' := ⟨[(2, I 0)], []⟩) (by kernel_rfl) ?_
    intro a hS
    refine wret ?_
    exact fin T hS hO (fun c => c) rfl (r := [.int .i64 0]) (by kernel_rfl) (fun χ' hM hC => ⟨0, hm, rfl⟩)
theorem C21 (v : ∀ (s_ : Numbering_Size), VC21 s_ (fun r => r = numbering_Check s_)) : S21 := by
  intro w χ s_    
  refine (W21 w χ s_    _ (v s_)).mono ?_
  rintro _ _ _ _ ⟨r, rfl, h⟩
  exact h
def S22 : Prop := ∀ (w : World) (χ : Nat → Nat) (ops : Int) (states : Int), Ret Try.prog 22 #[.int .i64 ops, .int .i64 states] xnone w χ (fun w χ' v => v = .int .i64 (ref31_Check ops states))
theorem hb22 : hasBody Try.prog 22 = true := by kernel_rfl
/-- replevin/replevinref31.Check -/
theorem W22 (w0 : World) (χ0 : Nat → Nat) (ops : Int) (states : Int) (Q : Int → Prop) (hm : VC22 ops states Q) :
    Ret Try.prog 22 #[.int .i64 ops, .int .i64 states] xnone w0 χ0 (fun w χ' v => ∃ r, Q r ∧ v = .int .i64 r) := by
  unfold VC22 at hm
  refine enter Try.func22 rfl (vals := [.int .i64 ops, .int .i64 states]) (by kernel_rfl) ?_
  intro ρ a hS hO hM
  clear hM
  refine regP T hS (sp := []) (ks := [0, 1]) (bs := []) (sy' := ⟨[(0, I ops), (1, I states)], []⟩) (by kernel_rfl) ?_
  intro a hS
  refine wseq ?_
  refine regP T hS (sp := [7, 11, 15]) (ks := [18]) (bs := []) (sy' := ⟨[(18, B ((((decide (ops < 0)) || (decide (ops > 64))) || (decide (states < 1))) || (decide (states > 32))))], []⟩) (by kernel_rfl) ?_
  intro a hS
  refine wcond hS (b := ((((decide (ops < 0)) || (decide (ops > 64))) || (decide (states < 1))) || (decide (states > 32)))) (by kernel_rfl) (fun hb => ?_) (fun hb => ?_)
  · replace hm := hm.1 hb
    refine regP T hS (sp := []) (ks := [4]) (bs := []) (sy' := ⟨[(4, I 2)], []⟩) (by kernel_rfl) ?_
    intro a hS
    refine wret ?_
    exact fin T hS hO (fun c => c) rfl (r := [.int .i64 2]) (by kernel_rfl) (fun χ' hM hC => ⟨2, hm, rfl⟩)
  · replace hm := hm.2 hb
    refine wskip ?_
    refine regP T hS (sp := []) (ks := [4]) (bs := []) (sy' := ⟨[(4, I 0)], []⟩) (by kernel_rfl) ?_
    intro a hS
    refine wret ?_
    exact fin T hS hO (fun c => c) rfl (r := [.int .i64 0]) (by kernel_rfl) (fun χ' hM hC => ⟨0, hm, rfl⟩)
theorem C22 (v : ∀ (ops : Int) (states : Int), VC22 ops states (fun r => r = ref31_Check ops states)) : S22 := by
  intro w χ ops states    
  refine (W22 w χ ops states    _ (v ops states)).mono ?_
  rintro _ _ _ _ ⟨r, rfl, h⟩
  exact h
def S56 : Prop := ∀ (w : World) (χ : Nat → Nat) (s_ : Numbering_Size) (kind : Int), Ret Try.prog 56 #[.agg #[.int .i64 s_.Ops, .int .i64 s_.States], .int .i64 kind] xnone w χ (fun w χ' v => v = .tuple #[.int .i64 ((numbering_Size_block s_ kind).1), .int .i64 ((numbering_Size_block s_ kind).2.1), .int .i64 ((numbering_Size_block s_ kind).2.2)])
theorem hb56 : hasBody Try.prog 56 = true := by kernel_rfl
/-- (replevin/numbering.Size).block -/
theorem W56 (w0 : World) (χ0 : Nat → Nat) (s_ : Numbering_Size) (kind : Int) (Q : Int × Int × Int → Prop) (hm : VC56 s_ kind Q) :
    Ret Try.prog 56 #[.agg #[.int .i64 s_.Ops, .int .i64 s_.States], .int .i64 kind] xnone w0 χ0 (fun w χ' v => ∃ r, Q r ∧ v = .tuple #[.int .i64 r.1, .int .i64 r.2.1, .int .i64 r.2.2]) := by
  unfold VC56 at hm
  refine enter Try.func56 rfl (vals := [.agg #[.int .i64 s_.Ops, .int .i64 s_.States], .int .i64 kind]) (by kernel_rfl) ?_
  intro ρ a hS hO hM
  clear hM
  refine regM T hS (sp := []) (ks := [1, 2]) (bs := [3]) (sy' := ⟨[(1, I kind), (2, Pt 3 0)], [(3, (23, [I s_.Ops, I s_.States]))]⟩) (by kernel_rfl) ?_
  intro ρ a w104 χ105 hS hE hr
  replace hO := hO.mv hE rfl rfl
  clear hE hr
  refine wseq ?_
  refine regP T hS (sp := []) (ks := [2, 7]) (bs := [3]) (sy' := ⟨[(2, Pt 3 0), (7, I kind)], [(3, (23, [I s_.Ops, I s_.States]))]⟩) (by kernel_rfl) ?_
  intro a hS
  refine wblock ?_
  refine regP T hS (sp := []) (ks := [2, 7, 8]) (bs := [3]) (sy' := ⟨[(2, Pt 3 0), (7, I kind), (8, B (kind == 1))], [(3, (23, [I s_.Ops, I s_.States]))]⟩) (by kernel_rfl) ?_
  intro a hS
  refine wcond hS (b := (kind == 1)) (by kernel_rfl) (fun hb => ?_) (fun hb => ?_)
  · replace hm := hm.1 hb
    refine drawnS [3] mixed hS ?_
    intro w101 hS hE hD hH
    replace hO := hO.mv hE rfl rfl
    clear hE
    refine take T [0, 2, 4, 1, 3, 5, 6] [3] [4, 5, 6] hS (by kernel_rfl) (by kernel_rfl) (by kernel_rfl) hH (listed' := #[true, true, true, true, true, true, true]) (fuel := 0) (sy' := ⟨[(4, I 0), (5, I s_.Ops), (6, I s_.Ops)], [(3, (23, [I s_.Ops, I s_.States]))]⟩) (by kernel_rfl) (by rfl) ?_
    intro a hS
    refine drawnDone (by kernel_rfl) ?_
    clear hD hH
    replace hS := hS.sel [4, 5, 6] [] (sy' := ⟨[(4, I 0), (5, I s_.Ops), (6, I s_.Ops)], []⟩) (by kernel_rfl)
    refine wret ?_
    exact fin T hS hO (fun c => c) rfl (r := [.int .i64 0, .int .i64 s_.Ops, .int .i64 s_.Ops]) (by kernel_rfl) (fun χ' hM hC => ⟨(0, s_.Ops, s_.Ops), hm, rfl⟩)
  · replace hm := hm.2 hb
    refine regP T hS (sp := []) (ks := [2, 14]) (bs := [3]) (sy' := ⟨[(2, Pt 3 0), (14, B (kind == 2))], [(3, (23, [I s_.Ops, I s_.States]))]⟩) (by kernel_rfl) ?_
    intro a hS
    refine wcond hS (b := (kind == 2)) (by kernel_rfl) (fun hb => ?_) (fun hb => ?_)
    · replace hm := hm.1 hb
      refine drawnS [3] mixed hS ?_
      intro w102 hS hE hD hH
      replace hO := hO.mv hE rfl rfl
      clear hE
      refine take T [0, 2, 5, 1, 3, 6, 4, 7, 8, 9] [3] [4, 5, 6] hS (by kernel_rfl) (by kernel_rfl) (by kernel_rfl) hH (listed' := #[true, true, true, true, true, true, true, true, true, true]) (fuel := 0) (sy' := ⟨[(4, I (IntKind.i64.wrap (s_.Ops * s_.Ops))), (5, I 1), (6, I s_.Ops)], [(3, (23, [I s_.Ops, I s_.States]))]⟩) (by kernel_rfl) (by rfl) ?_
      intro a hS
      refine drawnDone (by kernel_rfl) ?_
      clear hD hH
      replace hS := hS.sel [4, 5, 6] [] (sy' := ⟨[(4, I (IntKind.i64.wrap (s_.Ops * s_.Ops))), (5, I 1), (6, I s_.Ops)], []⟩) (by kernel_rfl)
      refine wret ?_
      exact fin T hS hO (fun c => c) rfl (r := [.int .i64 (IntKind.i64.wrap (s_.Ops * s_.Ops)), .int .i64 1, .int .i64 s_.Ops]) (by kernel_rfl) (fun χ' hM hC => ⟨(IntKind.i64.wrap (s_.Ops * s_.Ops), 1, s_.Ops), hm, rfl⟩)
    · replace hm := hm.2 hb
      refine wskip ?_
      refine drawnS [3] mixed hS ?_
      intro w103 hS hE hD hH
      replace hO := hO.mv hE rfl rfl
      clear hE
      refine take T [0, 2, 5, 8, 10, 1, 3, 6, 9, 11, 4, 12, 7, 13, 14, 15] [3] [4, 5, 6] hS (by kernel_rfl) (by kernel_rfl) (by kernel_rfl) hH (listed' := #[true, true, true, true, true, true, true, true, true, true, true, true, true, true, true, true]) (fuel := 0) (sy' := ⟨[(4, I (IntKind.i64.wrap ((IntKind.i64.wrap (s_.Ops * s_.Ops)) + s_.Ops))), (5, I s_.States), (6, I (IntKind.i64.wrap (s_.Ops + 1)))], [(3, (23, [I s_.Ops, I s_.States]))]⟩) (by kernel_rfl) (by rfl) ?_
      intro a hS
      refine drawnDone (by kernel_rfl) ?_
      clear hD hH
      replace hS := hS.sel [4, 5, 6] [] (sy' := ⟨[(4, I (IntKind.i64.wrap ((IntKind.i64.wrap (s_.Ops * s_.Ops)) + s_.Ops))), (5, I s_.States), (6, I (IntKind.i64.wrap (s_.Ops + 1)))], []⟩) (by kernel_rfl)
      refine wret ?_
      exact fin T hS hO (fun c => c) rfl (r := [.int .i64 (IntKind.i64.wrap ((IntKind.i64.wrap (s_.Ops * s_.Ops)) + s_.Ops)), .int .i64 s_.States, .int .i64 (IntKind.i64.wrap (s_.Ops + 1))]) (by kernel_rfl) (fun χ' hM hC => ⟨(IntKind.i64.wrap ((IntKind.i64.wrap (s_.Ops * s_.Ops)) + s_.Ops), s_.States, IntKind.i64.wrap (s_.Ops + 1)), hm, rfl⟩)
theorem C56 (v : ∀ (s_ : Numbering_Size) (kind : Int), VC56 s_ kind (fun r => r = numbering_Size_block s_ kind)) : S56 := by
  intro w χ s_ kind    
  refine (W56 w χ s_ kind    _ (v s_ kind)).mono ?_
  rintro _ _ _ _ ⟨r, rfl, h⟩
  exact h
def S23 : Prop := ∀ (w : World) (χ : Nat → Nat) (s_ : Numbering_Size), Ret Try.prog 23 #[.agg #[.int .i64 s_.Ops, .int .i64 s_.States]] xnone w χ (fun w χ' v => v = .int .i64 (numbering_Vars s_))
theorem hb23 : hasBody Try.prog 23 = true := by kernel_rfl
/-- replevin/numbering.Vars -/
theorem W23 (k21 : S21) (k56 : S56) (w0 : World) (χ0 : Nat → Nat) (s_ : Numbering_Size) (Q : Int → Prop) (hm : VC23 s_ Q) :
    Ret Try.prog 23 #[.agg #[.int .i64 s_.Ops, .int .i64 s_.States]] xnone w0 χ0 (fun w χ' v => ∃ r, Q r ∧ v = .int .i64 r) := by
  unfold VC23 at hm
  refine enter Try.func23 rfl (vals := [.agg #[.int .i64 s_.Ops, .int .i64 s_.States]]) (by kernel_rfl) ?_
  intro ρ a hS hO hM
  clear hM
  refine regM T hS (sp := []) (ks := [1]) (bs := [2]) (sy' := ⟨[(1, Pt 2 0)], [(2, (23, [I s_.Ops, I s_.States]))]⟩) (by kernel_rfl) ?_
  intro ρ a w109 χ110 hS hE hr
  replace hO := hO.mv hE rfl rfl
  clear hE hr
  refine wseq ?_
  refine regO ?_
  refine opsP T hS 1 (sp := []) (ks := [1, 6]) (bs := [2]) (sy' := ⟨[(1, Pt 2 0), (6, V (.agg #[.int .i64 s_.Ops, .int .i64 s_.States]))], [(2, (23, [I s_.Ops, I s_.States]))]⟩) (by kernel_rfl) ?_
  intro a hS
  refine op1 (call hS (by kernel_rfl) (by kernel_rfl) hb21 (by kernel_rfl) (fun _ _ => rfl) (k21 _ _ s_) ?_)
  intro v101 a w102 χ103 hE hp hS
  replace hO := hO.mv hE rfl rfl
  clear hE
  obtain ⟨r104, hr⟩ : ∃ r, numbering_Check s_ = r := ⟨_, rfl⟩
  replace hm := hm r104 hr
  rw [hr] at hp
  clear hr
  subst hp
  refine endP T hS (sp := []) (ks := [1, 8]) (bs := [2]) (sy' := ⟨[(1, Pt 2 0), (8, B (r104 != 0))], [(2, (23, [I s_.Ops, I s_.States]))]⟩) (by kernel_rfl) ?_
  intro a hS
  refine wcond hS (b := (r104 != 0)) (by kernel_rfl) (fun hb => ?_) (fun hb => ?_)
  · replace hm := hm.1 hb
    refine regP T hS (sp := []) (ks := [2]) (bs := []) (sy' := ⟨[(2, I 0)], []⟩) (by kernel_rfl) ?_
    intro a hS
    refine wret ?_
    exact fin T hS hO (fun c => c) rfl (r := [.int .i64 0]) (by kernel_rfl) (fun χ' hM hC => ⟨0, hm, rfl⟩)
  · replace hm := hm.2 hb
    refine wskip ?_
    refine regO ?_
    refine opsP T hS 1 (sp := []) (ks := [10]) (bs := []) (sy' := ⟨[(10, V (.agg #[.int .i64 s_.Ops, .int .i64 s_.States]))], []⟩) (by kernel_rfl) ?_
    intro a hS
    refine op1 (call hS (by kernel_rfl) (by kernel_rfl) hb56 (by kernel_rfl) (fun _ _ => rfl) (k56 _ _ s_ 3) ?_)
    intro v105 a w106 χ107 hE hp hS
    replace hO := hO.mv hE rfl rfl
    clear hE
    obtain ⟨r108, hr⟩ : ∃ r, numbering_Size_block s_ 3 = r := ⟨_, rfl⟩
    replace hm := hm r108 hr
    rw [hr] at hp
    clear hr
    subst hp
    refine endP T hS (sp := []) (ks := [3, 4, 5]) (bs := []) (sy' := ⟨[(3, I r108.1), (4, I r108.2.1), (5, I r108.2.2)], []⟩) (by kernel_rfl) ?_
    intro a hS
    refine regP T hS (sp := []) (ks := [2]) (bs := []) (sy' := ⟨[(2, I (IntKind.i64.wrap (r108.1 + (IntKind.i64.wrap (r108.2.1 * r108.2.2)))))], []⟩) (by kernel_rfl) ?_
    intro a hS
    refine wret ?_
    exact fin T hS hO (fun c => c) rfl (r := [.int .i64 (IntKind.i64.wrap (r108.1 + (IntKind.i64.wrap (r108.2.1 * r108.2.2))))]) (by kernel_rfl) (fun χ' hM hC => ⟨(IntKind.i64.wrap (r108.1 + (IntKind.i64.wrap (r108.2.1 * r108.2.2)))), hm, rfl⟩)
theorem C23 (k21 : S21) (k56 : S56) (v : ∀ (s_ : Numbering_Size), VC23 s_ (fun r => r = numbering_Vars s_)) : S23 := by
  intro w χ s_    
  refine (W23 k21 k56 w χ s_    _ (v s_)).mono ?_
  rintro _ _ _ _ ⟨r, rfl, h⟩
  exact h
def S24 : Prop := ∀ (w : World) (χ : Nat → Nat) (s_ : Numbering_Size) (n_ : Numbering_Name), Ret Try.prog 24 #[.agg #[.int .i64 s_.Ops, .int .i64 s_.States], .agg #[.int .i64 n_.Kind, .int .i64 n_.A, .int .i64 n_.B]] xnone w χ (fun w χ' v => v = .int .i64 (numbering_Var s_ n_))
theorem hb24 : hasBody Try.prog 24 = true := by kernel_rfl
/-- replevin/numbering.Var -/
theorem W24 (k21 : S21) (k56 : S56) (w0 : World) (χ0 : Nat → Nat) (s_ : Numbering_Size) (n_ : Numbering_Name) (Q : Int → Prop) (hm : VC24 s_ n_ Q) :
    Ret Try.prog 24 #[.agg #[.int .i64 s_.Ops, .int .i64 s_.States], .agg #[.int .i64 n_.Kind, .int .i64 n_.A, .int .i64 n_.B]] xnone w0 χ0 (fun w χ' v => ∃ r, Q r ∧ v = .int .i64 r) := by
  unfold VC24 at hm
  refine enter Try.func24 rfl (vals := [.agg #[.int .i64 s_.Ops, .int .i64 s_.States], .agg #[.int .i64 n_.Kind, .int .i64 n_.A, .int .i64 n_.B]]) (by kernel_rfl) ?_
  intro ρ a hS hO hM
  clear hM
  refine regM T hS (sp := []) (ks := [2, 3]) (bs := [3, 4]) (sy' := ⟨[(2, Pt 3 0), (3, Pt 4 0)], [(3, (23, [I s_.Ops, I s_.States])), (4, (25, [I n_.Kind, I n_.A, I n_.B]))]⟩) (by kernel_rfl) ?_
  intro ρ a w109 χ110 hS hE hr
  replace hO := hO.mv hE rfl rfl
  clear hE hr
  refine wseq ?_
  refine regO ?_
  refine opsP T hS 1 (sp := []) (ks := [2, 3, 9]) (bs := [3, 4]) (sy' := ⟨[(2, Pt 3 0), (3, Pt 4 0), (9, V (.agg #[.int .i64 s_.Ops, .int .i64 s_.States]))], [(3, (23, [I s_.Ops, I s_.States])), (4, (25, [I n_.Kind, I n_.A, I n_.B]))]⟩) (by kernel_rfl) ?_
  intro a hS
  refine op1 (call hS (by kernel_rfl) (by kernel_rfl) hb21 (by kernel_rfl) (fun _ _ => rfl) (k21 _ _ s_) ?_)
  intro v101 a w102 χ103 hE hp hS
  replace hO := hO.mv hE rfl rfl
  clear hE
  obtain ⟨r104, hr⟩ : ∃ r, numbering_Check s_ = r := ⟨_, rfl⟩
  replace hm := hm r104 hr
  rw [hr] at hp
  clear hr
  subst hp
  refine endP T hS (sp := [12, 17]) (ks := [2, 3, 21]) (bs := [3, 4]) (sy' := ⟨[(2, Pt 3 0), (3, Pt 4 0), (21, B (((r104 != 0) || (decide (n_.Kind ≤ 0))) || (decide (n_.Kind > 3))))], [(3, (23, [I s_.Ops, I s_.States])), (4, (25, [I n_.Kind, I n_.A, I n_.B]))]⟩) (by kernel_rfl) ?_
  intro a hS
  refine wcond hS (b := (((r104 != 0) || (decide (n_.Kind ≤ 0))) || (decide (n_.Kind > 3)))) (by kernel_rfl) (fun hb => ?_) (fun hb => ?_)
  · replace hm := hm.1 hb
    refine regP T hS (sp := []) (ks := [4]) (bs := []) (sy' := ⟨[(4, I 0)], []⟩) (by kernel_rfl) ?_
    intro a hS
    refine wret ?_
    exact fin T hS hO (fun c => c) rfl (r := [.int .i64 0]) (by kernel_rfl) (fun χ' hM hC => ⟨0, hm, rfl⟩)
  · replace hm := hm.2 hb
    refine wskip ?_
    refine regP T hS (sp := []) (ks := [3, 5]) (bs := [4]) (sy' := ⟨[(3, Pt 4 0), (5, .f (.func 56) [.v (.agg #[.int .i64 s_.Ops, .int .i64 s_.States])] [])], [(4, (25, [I n_.Kind, I n_.A, I n_.B]))]⟩) (by kernel_rfl) ?_
    intro a hS
    refine regO ?_
    refine opsP T hS 3 (sp := []) (ks := [3, 25, 27]) (bs := [4]) (sy' := ⟨[(3, Pt 4 0), (25, .f (.func 56) [.v (.agg #[.int .i64 s_.Ops, .int .i64 s_.States])] []), (27, I n_.Kind)], [(4, (25, [I n_.Kind, I n_.A, I n_.B]))]⟩) (by kernel_rfl) ?_
    intro a hS
    refine op1 (callC (fi := [.v (.agg #[.int .i64 s_.Ops, .int .i64 s_.States])]) (cp := []) hS (by kernel_rfl) (by kernel_rfl) hb56 (by kernel_rfl) (by kernel_rfl) (fun _ _ => rfl) (k56 _ _ s_ n_.Kind) ?_)
    intro v105 a w106 χ107 hE hp hS
    replace hO := hO.mv hE rfl rfl
    clear hE
    obtain ⟨r108, hr⟩ : ∃ r, numbering_Size_block s_ n_.Kind = r := ⟨_, rfl⟩
    replace hm := hm r108 hr
    rw [hr] at hp
    clear hr
    subst hp
    refine endP T hS (sp := []) (ks := [3, 6, 7, 8]) (bs := [4]) (sy' := ⟨[(3, Pt 4 0), (6, I r108.1), (7, I r108.2.1), (8, I r108.2.2)], [(4, (25, [I n_.Kind, I n_.A, I n_.B]))]⟩) (by kernel_rfl) ?_
    intro a hS
    refine wseq ?_
    refine regP T hS (sp := [35, 41, 46]) (ks := [3, 6, 7, 51]) (bs := [4]) (sy' := ⟨[(3, Pt 4 0), (6, I r108.1), (7, I r108.2.1), (51, B ((((decide (n_.A < 0)) || (decide (n_.A ≥ r108.2.2))) || (decide (n_.B < 0))) || (decide (n_.B ≥ r108.2.1))))], [(4, (25, [I n_.Kind, I n_.A, I n_.B]))]⟩) (by kernel_rfl) ?_
    intro a hS
    refine wcond hS (b := ((((decide (n_.A < 0)) || (decide (n_.A ≥ r108.2.2))) || (decide (n_.B < 0))) || (decide (n_.B ≥ r108.2.1)))) (by kernel_rfl) (fun hb => ?_) (fun hb => ?_)
    · replace hm := hm.1 hb
      refine regP T hS (sp := []) (ks := [4]) (bs := []) (sy' := ⟨[(4, I 0)], []⟩) (by kernel_rfl) ?_
      intro a hS
      refine wret ?_
      exact fin T hS hO (fun c => c) rfl (r := [.int .i64 0]) (by kernel_rfl) (fun χ' hM hC => ⟨0, hm, rfl⟩)
    · replace hm := hm.2 hb
      refine wskip ?_
      refine regP T hS (sp := []) (ks := [4]) (bs := []) (sy' := ⟨[(4, I (IntKind.i64.wrap ((IntKind.i64.wrap ((IntKind.i64.wrap (r108.1 + (IntKind.i64.wrap (n_.A * r108.2.1)))) + n_.B)) + 1)))], []⟩) (by kernel_rfl) ?_
      intro a hS
      refine wret ?_
      exact fin T hS hO (fun c => c) rfl (r := [.int .i64 (IntKind.i64.wrap ((IntKind.i64.wrap ((IntKind.i64.wrap (r108.1 + (IntKind.i64.wrap (n_.A * r108.2.1)))) + n_.B)) + 1))]) (by kernel_rfl) (fun χ' hM hC => ⟨(IntKind.i64.wrap ((IntKind.i64.wrap ((IntKind.i64.wrap (r108.1 + (IntKind.i64.wrap (n_.A * r108.2.1)))) + n_.B)) + 1)), hm, rfl⟩)
theorem C24 (k21 : S21) (k56 : S56) (v : ∀ (s_ : Numbering_Size) (n_ : Numbering_Name), VC24 s_ n_ (fun r => r = numbering_Var s_ n_)) : S24 := by
  intro w χ s_ n_    
  refine (W24 k21 k56 w χ s_ n_    _ (v s_ n_)).mono ?_
  rintro _ _ _ _ ⟨r, rfl, h⟩
  exact h
def S64 : Prop := ∀ (w : World) (χ : Nat → Nat) (s_ : List Int) (v_ : Int) (a1 : Option Addr) (c1 : Nat), RS tI w χ a1 s_ c1 → Ret Try.prog 64 #[.slice a1 s_.length c1, .int .i64 v_] xnone w χ (fun w χ' v => v = .int .i64 (slices_Index_int_int s_ v_))
theorem hb64 : hasBody Try.prog 64 = true := by kernel_rfl
/-- slices.Index[[]int,int] -/
theorem W64 (w0 : World) (χ0 : Nat → Nat) (s_ : List Int) (v_ : Int) (a1 : Option Addr) (c1 : Nat) (Q : Int → Prop) (hm : VC64 s_ v_ Q) (h1 : RS tI w0 χ0 a1 s_ c1) :
    Ret Try.prog 64 #[.slice a1 s_.length c1, .int .i64 v_] xnone w0 χ0 (fun w χ' v => ∃ r, Q r ∧ v = .int .i64 r) := by
  unfold VC64 at hm
  replace hm := hm (h1.sm (by kernel_rfl))
  refine enter Try.func64 rfl (vals := [.slice a1 s_.length c1, .int .i64 v_]) (by kernel_rfl) ?_
  intro ρ a hS hO hM
  replace h1 := h1.m0 hM
  clear hM
  refine regP T hS (sp := []) (ks := [0, 1]) (bs := []) (sy' := ⟨[(0, V (.slice a1 s_.length c1)), (1, I v_)], []⟩) (by kernel_rfl) ?_
  intro a hS
  refine wcut (fun a w => ∃ (ρ : Nat → Nat) (χ : Nat → Nat), VC64_J1 Q ∧ St Try.f64.ntmps ⟨[], []⟩ ρ a w χ ∧ Old w0 χ0 w χ) ?_ ?_
  · refine regP T hS (sp := []) (ks := [0, 1, 7, 8]) (bs := []) (sy' := ⟨[(0, V (.slice a1 s_.length c1)), (1, I v_), (7, I ((s_.length : Nat) : Int)), (8, I 0)], []⟩) (by kernel_rfl) ?_
    intro a hS
    refine wblock ?_
    obtain ⟨I1, μ1, hm0, hm⟩ := hm
    refine wloop (σ := Int) (fun s a w => ∃ (ρ : Nat → Nat) (χ : Nat → Nat), I1 s ∧ St Try.f64.ntmps ⟨[(0, V (.slice a1 s_.length c1)), (1, I v_), (7, I ((s_.length : Nat) : Int)), (8, I s)], []⟩ ρ a w χ ∧ Old w0 χ0 w χ ∧ RS tI w χ a1 s_ c1) (fun s => μ1 s) (0) ?_ ?_
    · exact ⟨ρ, _, hm0, hS.sel [0, 1, 7, 8] [] (by kernel_rfl), hO, h1⟩
    · rintro x_102 a w107 ⟨ρ, χ106, hI, hS, hO, h101⟩
      replace hm := hm x_102 hI
      clear hI hm0
      refine regP T hS (sp := []) (ks := [0, 1, 7, 8, 9]) (bs := []) (sy' := ⟨[(0, V (.slice a1 s_.length c1)), (1, I v_), (7, I ((s_.length : Nat) : Int)), (8, I x_102), (9, B (decide (x_102 < ((s_.length : Nat) : Int))))], []⟩) (by kernel_rfl) ?_
      intro a hS
      refine wseq ?_
      refine wcond hS (b := decide (x_102 < ((s_.length : Nat) : Int))) (by kernel_rfl) (fun hb => ?_) (fun hb => ?_)
      · replace hm := hm.1 hb
        refine wskip ?_
        refine wseq ?_
        refine wblock ?_
        refine regP T hS (sp := []) (ks := [0, 1, 5, 7, 8]) (bs := []) (sy' := ⟨[(0, V (.slice a1 s_.length c1)), (1, I v_), (5, I x_102), (7, I ((s_.length : Nat) : Int)), (8, I x_102)], []⟩) (by kernel_rfl) ?_
        intro a hS
        refine regO ?_
        refine opsP T hS 3 (sp := []) (ks := [0, 1, 5, 7, 8, 11, 12, 13]) (bs := []) (sy' := ⟨[(0, V (.slice a1 s_.length c1)), (1, I v_), (5, I x_102), (7, I ((s_.length : Nat) : Int)), (8, I x_102), (11, I v_), (12, V (.slice a1 s_.length c1)), (13, I x_102)], []⟩) (by kernel_rfl) ?_
        intro a hS
        obtain ⟨hq, hm⟩ := hm
        refine op1 (index (e := 3) (k := .i64) T hS (by kernel_rfl) (by kernel_rfl) (by kernel_rfl) (by kernel_rfl) h101 (by kernel_rfl) (by kernel_rfl) hq.1 hq.2 ?_)
        intro A103 a h104 hS
        clear hq
        refine op1 (load1 T hS (by kernel_rfl) (by kernel_rfl) (by kernel_rfl) h104 rfl (by kernel_rfl) ?_)
        intro v105 a hv hS
        cases hv
        refine endP T hS (sp := []) (ks := [0, 1, 5, 7, 8, 16]) (bs := []) (sy' := ⟨[(0, V (.slice a1 s_.length c1)), (1, I v_), (5, I x_102), (7, I ((s_.length : Nat) : Int)), (8, I x_102), (16, B (v_ == (gi s_ x_102)))], []⟩) (by kernel_rfl) ?_
        intro a hS
        refine wcond hS (b := (v_ == (gi s_ x_102))) (by kernel_rfl) (fun hb => ?_) (fun hb => ?_)
        · replace hm := hm.1 hb
          refine regP T hS (sp := []) (ks := [4]) (bs := []) (sy' := ⟨[(4, I x_102)], []⟩) (by kernel_rfl) ?_
          intro a hS
          refine wret ?_
          exact fin T hS hO (fun c => c) rfl (r := [.int .i64 x_102]) (by kernel_rfl) (fun χ' hM hC => ⟨x_102, hm, rfl⟩)
        · replace hm := hm.2 hb
          refine wskip ?_
          refine region (endP T hS (sp := []) (ks := [0, 1, 7, 8]) (bs := []) (sy' := ⟨[(0, V (.slice a1 s_.length c1)), (1, I v_), (7, I ((s_.length : Nat) : Int)), (8, I (IntKind.i64.wrap (x_102 + 1)))], []⟩) (by kernel_rfl) ?_)
          intro a hS
          exact ⟨IntKind.i64.wrap (x_102 + 1), ⟨ρ, _, hm.1, hS.sel [0, 1, 7, 8] [] (by kernel_rfl), hO, h101⟩, hm.2⟩
      · replace hm := hm.2 hb
        refine wexit (by rfl) ?_
        exact ⟨ρ, _, hm, hS.sel [] [] (by kernel_rfl), hO⟩
  · rintro a w109 ⟨ρ, χ108, hm, hS, hO⟩
    unfold VC64_J1 at hm
    refine regP T hS (sp := []) (ks := [4]) (bs := []) (sy' := ⟨[(4, I (-1))], []⟩) (by kernel_rfl) ?_
    intro a hS
    refine wret ?_
    exact fin T hS hO (fun c => c) rfl (r := [.int .i64 (-1)]) (by kernel_rfl) (fun χ' hM hC => ⟨(-1), hm, rfl⟩)
theorem C64 (v : ∀ (s_ : List Int) (v_ : Int), VC64 s_ v_ (fun r => r = slices_Index_int_int s_ v_)) : S64 := by
  intro w χ s_ v_ a1 c1   h1
  refine (W64 w χ s_ v_ a1 c1   _ (v s_ v_) h1).mono ?_
  rintro _ _ _ _ ⟨r, rfl, h⟩
  exact h
def S68 : Prop := ∀ (w : World) (χ : Nat → Nat) (s_ : List Int) (v_ : Int) (a1 : Option Addr) (c1 : Nat), RS tI w χ a1 s_ c1 → Ret Try.prog 68 #[.slice a1 s_.length c1, .int .i64 v_] xnone w χ (fun w χ' v => v = .bool (slices_Contains_int_int s_ v_))
theorem hb68 : hasBody Try.prog 68 = true := by kernel_rfl
/-- slices.Contains[[]int,int] -/
theorem W68 (k64 : S64) (w0 : World) (χ0 : Nat → Nat) (s_ : List Int) (v_ : Int) (a1 : Option Addr) (c1 : Nat) (Q : Bool → Prop) (hm : VC68 s_ v_ Q) (h1 : RS tI w0 χ0 a1 s_ c1) :
    Ret Try.prog 68 #[.slice a1 s_.length c1, .int .i64 v_] xnone w0 χ0 (fun w χ' v => ∃ r, Q r ∧ v = .bool r) := by
  unfold VC68 at hm
  replace hm := hm (h1.sm (by kernel_rfl))
  refine enter Try.func68 rfl (vals := [.slice a1 s_.length c1, .int .i64 v_]) (by kernel_rfl) ?_
  intro ρ a hS hO hM
  replace h1 := h1.m0 hM
  clear hM
  refine regP T hS (sp := []) (ks := [0, 1]) (bs := []) (sy' := ⟨[(0, V (.slice a1 s_.length c1)), (1, I v_)], []⟩) (by kernel_rfl) ?_
  intro a hS
  refine regO ?_
  refine opsP T hS 2 (sp := []) (ks := [5, 6]) (bs := []) (sy' := ⟨[(5, V (.slice a1 s_.length c1)), (6, I v_)], []⟩) (by kernel_rfl) ?_
  intro a hS
  refine op1 (call hS (by kernel_rfl) (by kernel_rfl) hb64 (by kernel_rfl) (fun _ _ => rfl) (k64 _ _ s_ v_ a1 c1 h1) ?_)
  intro v101 a w102 χ103 hE hp hS
  replace hO := hO.mv hE rfl rfl
  replace h1 := h1.mv hE rfl
  clear hE
  obtain ⟨r104, hr⟩ : ∃ r, slices_Index_int_int s_ v_ = r := ⟨_, rfl⟩
  replace hm := hm r104 hr
  rw [hr] at hp
  clear hr
  subst hp
  refine endP T hS (sp := []) (ks := [4]) (bs := []) (sy' := ⟨[(4, B (decide (r104 ≥ 0)))], []⟩) (by kernel_rfl) ?_
  intro a hS
  refine wret ?_
  exact fin T hS hO (fun c => c) rfl (r := [.bool (decide (r104 ≥ 0))]) (by kernel_rfl) (fun χ' hM hC => ⟨(decide (r104 ≥ 0)), hm, rfl⟩)
theorem C68 (k64 : S64) (v : ∀ (s_ : List Int) (v_ : Int), VC68 s_ v_ (fun r => r = slices_Contains_int_int s_ v_)) : S68 := by
  intro w χ s_ v_ a1 c1   h1
  refine (W68 k64 w χ s_ v_ a1 c1   _ (v s_ v_) h1).mono ?_
  rintro _ _ _ _ ⟨r, rfl, h⟩
  exact h
def S67 : Prop := ∀ (w : World) (χ : Nat → Nat) (p_ : Int × Int) (n_ : Int), Ret Try.prog 67 #[.agg #[.int .i64 p_.1, .int .i64 p_.2], .int .i64 n_] xnone w χ (fun w χ' v => v = .bool (times_proper p_ n_))
theorem hb67 : hasBody Try.prog 67 = true := by kernel_rfl
/-- replevin/times.proper -/
theorem W67 (w0 : World) (χ0 : Nat → Nat) (p_ : Int × Int) (n_ : Int) (Q : Bool → Prop) (hm : VC67 p_ n_ Q) :
    Ret Try.prog 67 #[.agg #[.int .i64 p_.1, .int .i64 p_.2], .int .i64 n_] xnone w0 χ0 (fun w χ' v => ∃ r, Q r ∧ v = .bool r) := by
  unfold VC67 at hm
  refine enter Try.func67 rfl (vals := [.agg #[.int .i64 p_.1, .int .i64 p_.2], .int .i64 n_]) (by kernel_rfl) ?_
  intro ρ a hS hO hM
  clear hM
  refine regM T hS (sp := []) (ks := [1, 2]) (bs := [3]) (sy' := ⟨[(1, I n_), (2, Pt 3 0)], [(3, (68, [I p_.1, I p_.2]))]⟩) (by kernel_rfl) ?_
  intro ρ a w101 χ102 hS hE hr
  replace hO := hO.mv hE rfl rfl
  clear hE hr
  refine regP T hS (sp := [11, 20]) (ks := [4]) (bs := []) (sy' := ⟨[(4, B (((decide ((if p_.2 < p_.1 then p_.2 else p_.1) ≥ 0)) && (decide ((if p_.2 > p_.1 then p_.2 else p_.1) < n_))) && (p_.1 != p_.2)))], []⟩) (by kernel_rfl) ?_
  intro a hS
  refine wret ?_
  exact fin T hS hO (fun c => c) rfl (r := [.bool (((decide ((if p_.2 < p_.1 then p_.2 else p_.1) ≥ 0)) && (decide ((if p_.2 > p_.1 then p_.2 else p_.1) < n_))) && (p_.1 != p_.2))]) (by kernel_rfl) (fun χ' hM hC => ⟨(((decide ((if p_.2 < p_.1 then p_.2 else p_.1) ≥ 0)) && (decide ((if p_.2 > p_.1 then p_.2 else p_.1) < n_))) && (p_.1 != p_.2)), hm, rfl⟩)
theorem C67 (v : ∀ (p_ : Int × Int) (n_ : Int), VC67 p_ n_ (fun r => r = times_proper p_ n_)) : S67 := by
  intro w χ p_ n_    
  refine (W67 w χ p_ n_    _ (v p_ n_)).mono ?_
  rintro _ _ _ _ ⟨r, rfl, h⟩
  exact h
def S66 : Prop := ∀ (w : World) (χ : Nat → Nat) (p_ : Int × Int) (cap1 : Int) (cap2 : Int) (cap3 : List Int) (a1 : Option Addr) (c1 : Nat) (b1 : Nat) (i1 : Nat) (b2 : Nat) (i2 : Nat) (b3 : Nat) (i3 : Nat), RS tI w χ a1 cap3 c1 → Cell w χ b1 i1 3 [.int .i64 cap1] → Cell w χ b2 i2 3 [.int .i64 cap2] → Cell w χ b3 i3 42 [.slice a1 cap3.length c1] → Apart [i1, i2, i3] → Ret Try.prog 66 #[.agg #[.int .i64 p_.1, .int .i64 p_.2], .pointer (some ⟨b1, 0, none⟩), .pointer (some ⟨b2, 0, none⟩), .pointer (some ⟨b3, 0, none⟩)] (pR [i1, i2, i3]) w χ (fun w χ' v => v = .bool (times_Sort_1_1 p_ cap1 cap2 cap3) ∧ Cell w χ' b1 i1 3 [.int .i64 cap1] ∧ Cell w χ' b2 i2 3 [.int .i64 cap2] ∧ Cell w χ' b3 i3 42 [.slice a1 cap3.length c1])
theorem hb66 : hasBody Try.prog 66 = true := by kernel_rfl
/-- replevin/times.Sort$1$1 -/
theorem W66 (k67 : S67) (k68 : S68) (w0 : World) (χ0 : Nat → Nat) (p_ : Int × Int) (cap1 : Int) (cap2 : Int) (cap3 : List Int) (a1 : Option Addr) (c1 : Nat) (b1 : Nat) (i1 : Nat) (b2 : Nat) (i2 : Nat) (b3 : Nat) (i3 : Nat) (Q : Bool → Prop) (hm : VC66 p_ cap1 cap2 cap3 Q) (h1 : RS tI w0 χ0 a1 cap3 c1) (hc1 : Cell w0 χ0 b1 i1 3 [.int .i64 cap1]) (hc2 : Cell w0 χ0 b2 i2 3 [.int .i64 cap2]) (hc3 : Cell w0 χ0 b3 i3 42 [.slice a1 cap3.length c1]) (hA : Apart [i1, i2, i3]) :
    Ret Try.prog 66 #[.agg #[.int .i64 p_.1, .int .i64 p_.2], .pointer (some ⟨b1, 0, none⟩), .pointer (some ⟨b2, 0, none⟩), .pointer (some ⟨b3, 0, none⟩)] (pR [i1, i2, i3]) w0 χ0 (fun w χ' v => ∃ r, Q r ∧ v = .bool r ∧ Cell w χ' b1 i1 3 [.int .i64 cap1] ∧ Cell w χ' b2 i2 3 [.int .i64 cap2] ∧ Cell w χ' b3 i3 42 [.slice a1 cap3.length c1]) := by
  unfold VC66 at hm
  replace hm := hm (h1.sm (by kernel_rfl))
  refine enterR Try.func66 rfl (f0of [(i1, 901), (i2, 902), (i3, 903)]) (fun id => (bif Nat.beq id 901 then b1 else (bif Nat.beq id 902 then b2 else (bif Nat.beq id 903 then b3 else 0)))) (args := [V (.agg #[.int .i64 p_.1, .int .i64 p_.2]), Pt 901 0, Pt 902 0, Pt 903 0]) (bxs := [(901, (3, [I cap1])), (902, (3, [I cap2])), (903, (42, [V (.slice a1 cap3.length c1)]))]) (by kernel_rfl) rfl (BoxesOK.cons (by kernel_rfl) (hc1.map (f0of_at 0 hA.1 rfl)) (BoxesOK.cons (by kernel_rfl) (hc2.map (f0of_at 1 hA.1 rfl)) (BoxesOK.cons (by kernel_rfl) (hc3.map (f0of_at 2 hA.1 rfl)) BoxesOK.nil))) (f0of_0 (fun q hq => (hA.2 q.1 (List.mem_map.2 ⟨q, hq, rfl⟩)).1)) ?_
  intro a hS hO hM
  have hP : Pin [(901, b1), (902, b2), (903, b3)] (fun id => (bif Nat.beq id 901 then b1 else (bif Nat.beq id 902 then b2 else (bif Nat.beq id 903 then b3 else 0)))) := by intro q hq; simp at hq; rcases hq with rfl | rfl | rfl <;> rfl
  generalize (fun id => (bif Nat.beq id 901 then b1 else (bif Nat.beq id 902 then b2 else (bif Nat.beq id 903 then b3 else 0)))) = ρ at hS hP
  clear hc1 hc2 hc3
  replace h1 := h1.m0 hM
  clear hM
  refine regM T hS (sp := []) (ks := [1, 2, 3, 4]) (bs := [5, 901, 902, 903]) (sy' := ⟨[(1, Pt 901 0), (2, Pt 902 0), (3, Pt 903 0), (4, Pt 5 0)], [(5, (68, [I p_.1, I p_.2])), (901, (3, [I cap1])), (902, (3, [I cap2])), (903, (42, [V (.slice a1 cap3.length c1)]))]⟩) (by kernel_rfl) ?_
  intro ρ a w109 χ110 hS hE hr
  replace hO := hO.mv hE rfl rfl
  replace h1 := h1.mv hE rfl
  replace hP := hP.mv hr (by kernel_rfl)
  clear hE hr
  refine regO ?_
  refine opsP T hS 2 (sp := []) (ks := [2, 3, 4, 6, 7]) (bs := [5, 901, 902, 903]) (sy' := ⟨[(2, Pt 902 0), (3, Pt 903 0), (4, Pt 5 0), (6, V (.agg #[.int .i64 p_.1, .int .i64 p_.2])), (7, I cap1)], [(5, (68, [I p_.1, I p_.2])), (901, (3, [I cap1])), (902, (3, [I cap2])), (903, (42, [V (.slice a1 cap3.length c1)]))]⟩) (by kernel_rfl) ?_
  intro a hS
  refine op1 (call hS (by kernel_rfl) (by kernel_rfl) hb67 (by kernel_rfl) (fun _ _ => rfl) (k67 _ _ (p_.1, p_.2) cap1) ?_)
  intro v101 a w102 χ103 hE hp hS
  replace hO := hO.mv hE rfl rfl
  replace h1 := h1.mv hE rfl
  clear hE
  obtain ⟨r104, hr⟩ : ∃ r, times_proper (p_.1, p_.2) cap1 = r := ⟨_, rfl⟩
  replace hm := hm r104 hr
  rw [hr] at hp
  clear hr
  subst hp
  refine opsP T hS 7 (sp := [9]) (ks := [3, 4, 15]) (bs := [5, 901, 902, 903]) (sy' := ⟨[(3, Pt 903 0), (4, Pt 5 0), (15, B (r104 && (p_.2 == cap2)))], [(5, (68, [I p_.1, I p_.2])), (901, (3, [I cap1])), (902, (3, [I cap2])), (903, (42, [V (.slice a1 cap3.length c1)]))]⟩) (by kernel_rfl) ?_
  intro a hS
  rcases Bool.eq_false_or_eq_true (r104 && (p_.2 == cap2)) with hb | hb
  · replace hS := hS.lit (t := 15) (by kernel_rfl) hb
    replace hm := hm.1 hb
    refine opsP T hS 3 (sp := []) (ks := [15, 16, 18]) (bs := [901, 902, 903]) (sy' := ⟨[(15, B true), (16, V (.slice a1 cap3.length c1)), (18, I p_.1)], [(901, (3, [I cap1])), (902, (3, [I cap2])), (903, (42, [V (.slice a1 cap3.length c1)]))]⟩) (by kernel_rfl) ?_
    intro a hS
    refine op1 (call hS (by kernel_rfl) (by kernel_rfl) hb68 (by kernel_rfl) (fun _ _ => rfl) (k68 _ _ cap3 p_.1 a1 c1 h1) ?_)
    intro v105 a w106 χ107 hE hp hS
    replace hO := hO.mv hE rfl rfl
    replace h1 := h1.mv hE rfl
    clear hE
    obtain ⟨r108, hr⟩ : ∃ r, slices_Contains_int_int cap3 p_.1 = r := ⟨_, rfl⟩
    replace hm := hm r108 hr
    rw [hr] at hp
    clear hr
    subst hp
    refine endP T hS (sp := []) (ks := [5]) (bs := [901, 902, 903]) (sy' := ⟨[(5, B (!r108))], [(901, (3, [I cap1])), (902, (3, [I cap2])), (903, (42, [V (.slice a1 cap3.length c1)]))]⟩) (by kernel_rfl) ?_
    intro a hS
    refine wret ?_
    exact finR T hS hO (fun c h => f0of_zero (by kernel_rfl) h) (fun c h => f0of_else (l := [(i1, 901), (i2, 902), (i3, 903)]) h) (f1of [(i1, 901), (i2, 902), (i3, 903)]) rfl (r := [.bool (!r108)]) (by kernel_rfl) (fun χ' hM hC => ⟨(!r108), hm, rfl, ((hS.cell (id := 901) (t := 3) (cs := [I cap1]) (by kernel_rfl)).out (f := (f1of [(i1, 901), (i2, 902), (i3, 903)])) hC (by kernel_rfl) (by kernel_rfl) (hP.at 0 rfl)), ((hS.cell (id := 902) (t := 3) (cs := [I cap2]) (by kernel_rfl)).out (f := (f1of [(i1, 901), (i2, 902), (i3, 903)])) hC (by kernel_rfl) (by kernel_rfl) (hP.at 1 rfl)), ((hS.cell (id := 903) (t := 42) (cs := [V (.slice a1 cap3.length c1)]) (by kernel_rfl)).out (f := (f1of [(i1, 901), (i2, 902), (i3, 903)])) hC (by kernel_rfl) (by kernel_rfl) (hP.at 2 rfl))⟩)
  · replace hS := hS.lit (t := 15) (by kernel_rfl) hb
    replace hm := hm.2 hb
    refine endP T hS (sp := []) (ks := [5]) (bs := [901, 902, 903]) (sy' := ⟨[(5, B false)], [(901, (3, [I cap1])), (902, (3, [I cap2])), (903, (42, [V (.slice a1 cap3.length c1)]))]⟩) (by kernel_rfl) ?_
    intro a hS
    refine wret ?_
    exact finR T hS hO (fun c h => f0of_zero (by kernel_rfl) h) (fun c h => f0of_else (l := [(i1, 901), (i2, 902), (i3, 903)]) h) (f1of [(i1, 901), (i2, 902), (i3, 903)]) rfl (r := [.bool false]) (by kernel_rfl) (fun χ' hM hC => ⟨false, hm, rfl, ((hS.cell (id := 901) (t := 3) (cs := [I cap1]) (by kernel_rfl)).out (f := (f1of [(i1, 901), (i2, 902), (i3, 903)])) hC (by kernel_rfl) (by kernel_rfl) (hP.at 0 rfl)), ((hS.cell (id := 902) (t := 3) (cs := [I cap2]) (by kernel_rfl)).out (f := (f1of [(i1, 901), (i2, 902), (i3, 903)])) hC (by kernel_rfl) (by kernel_rfl) (hP.at 1 rfl)), ((hS.cell (id := 903) (t := 42) (cs := [V (.slice a1 cap3.length c1)]) (by kernel_rfl)).out (f := (f1of [(i1, 901), (i2, 902), (i3, 903)])) hC (by kernel_rfl) (by kernel_rfl) (hP.at 2 rfl))⟩)
theorem C66 (k67 : S67) (k68 : S68) (v : ∀ (p_ : Int × Int) (cap1 : Int) (cap2 : Int) (cap3 : List Int), VC66 p_ cap1 cap2 cap3 (fun r => r = times_Sort_1_1 p_ cap1 cap2 cap3)) : S66 := by
  intro w χ p_ cap1 cap2 cap3 a1 c1  b1 i1 b2 i2 b3 i3 h1 hc1 hc2 hc3 hA
  refine (W66 k67 k68 w χ p_ cap1 cap2 cap3 a1 c1  b1 i1 b2 i2 b3 i3 _ (v p_ cap1 cap2 cap3) h1 hc1 hc2 hc3 hA).mono ?_
  rintro _ _ _ _ ⟨r, rfl, h⟩
  exact h
def S80_66 : Prop := ∀ (w : World) (χ : Nat → Nat) (s_ : List (Int × Int)) (cap1 : Int) (cap2 : Int) (cap3 : List Int) (a1 : Option Addr) (c1 : Nat) (a2 : Option Addr) (c2 : Nat) (b1 : Nat) (i1 : Nat) (b2 : Nat) (i2 : Nat) (b3 : Nat) (i3 : Nat), RS tP2 w χ a1 s_ c1 → RS tI w χ a2 cap3 c2 → Cell w χ b1 i1 3 [.int .i64 cap1] → Cell w χ b2 i2 3 [.int .i64 cap2] → Cell w χ b3 i3 42 [.slice a2 cap3.length c2] → Apart [i1, i2, i3] → Ret Try.prog 80 #[.slice a1 s_.length c1, .func (.func 66) #[] #[.pointer (some ⟨b1, 0, none⟩), .pointer (some ⟨b2, 0, none⟩), .pointer (some ⟨b3, 0, none⟩)]] (pR [i1, i2, i3]) w χ (fun w χ' v => v = .int .i64 (slices_IndexFunc_2_int_2_int_times_Sort_1_1 s_ cap1 cap2 cap3) ∧ Cell w χ' b1 i1 3 [.int .i64 cap1] ∧ Cell w χ' b2 i2 3 [.int .i64 cap2] ∧ Cell w χ' b3 i3 42 [.slice a2 cap3.length c2])
theorem hb80 : hasBody Try.prog 80 = true := by kernel_rfl
/-- slices.IndexFunc[[][2]int,[2]int] -/
theorem W80_66 (k66 : S66) (w0 : World) (χ0 : Nat → Nat) (s_ : List (Int × Int)) (cap1 : Int) (cap2 : Int) (cap3 : List Int) (a1 : Option Addr) (c1 : Nat) (a2 : Option Addr) (c2 : Nat) (b1 : Nat) (i1 : Nat) (b2 : Nat) (i2 : Nat) (b3 : Nat) (i3 : Nat) (Q : Int → Prop) (hm : VC80_66 s_ cap1 cap2 cap3 Q) (h1 : RS tP2 w0 χ0 a1 s_ c1) (h2 : RS tI w0 χ0 a2 cap3 c2) (hc1 : Cell w0 χ0 b1 i1 3 [.int .i64 cap1]) (hc2 : Cell w0 χ0 b2 i2 3 [.int .i64 cap2]) (hc3 : Cell w0 χ0 b3 i3 42 [.slice a2 cap3.length c2]) (hA : Apart [i1, i2, i3]) :
    Ret Try.prog 80 #[.slice a1 s_.length c1, .func (.func 66) #[] #[.pointer (some ⟨b1, 0, none⟩), .pointer (some ⟨b2, 0, none⟩), .pointer (some ⟨b3, 0, none⟩)]] (pR [i1, i2, i3]) w0 χ0 (fun w χ' v => ∃ r, Q r ∧ v = .int .i64 r ∧ Cell w χ' b1 i1 3 [.int .i64 cap1] ∧ Cell w χ' b2 i2 3 [.int .i64 cap2] ∧ Cell w χ' b3 i3 42 [.slice a2 cap3.length c2]) := by
  unfold VC80_66 at hm
  replace hm := hm (h1.sm (by kernel_rfl))
  replace hm := hm (h2.sm (by kernel_rfl))
  refine enterR Try.func80 rfl (f0of [(i1, 901), (i2, 902), (i3, 903)]) (fun id => (bif Nat.beq id 901 then b1 else (bif Nat.beq id 902 then b2 else (bif Nat.beq id 903 then b3 else 0)))) (args := [V (.slice a1 s_.length c1), .f (.func 66) [] [.p 901 0, .p 902 0, .p 903 0]]) (bxs := [(901, (3, [I cap1])), (902, (3, [I cap2])), (903, (42, [V (.slice a2 cap3.length c2)]))]) (by kernel_rfl) rfl (BoxesOK.cons (by kernel_rfl) (hc1.map (f0of_at 0 hA.1 rfl)) (BoxesOK.cons (by kernel_rfl) (hc2.map (f0of_at 1 hA.1 rfl)) (BoxesOK.cons (by kernel_rfl) (hc3.map (f0of_at 2 hA.1 rfl)) BoxesOK.nil))) (f0of_0 (fun q hq => (hA.2 q.1 (List.mem_map.2 ⟨q, hq, rfl⟩)).1)) ?_
  intro a hS hO hM
  have hP : Pin [(901, b1), (902, b2), (903, b3)] (fun id => (bif Nat.beq id 901 then b1 else (bif Nat.beq id 902 then b2 else (bif Nat.beq id 903 then b3 else 0)))) := by intro q hq; simp at hq; rcases hq with rfl | rfl | rfl <;> rfl
  generalize (fun id => (bif Nat.beq id 901 then b1 else (bif Nat.beq id 902 then b2 else (bif Nat.beq id 903 then b3 else 0)))) = ρ at hS hP
  clear hc1 hc2 hc3
  replace h1 := h1.m0 hM
  replace h2 := h2.m0 hM
  clear hM
  refine regP T hS (sp := []) (ks := [0, 1]) (bs := [901, 902, 903]) (sy' := ⟨[(0, V (.slice a1 s_.length c1)), (1, .f (.func 66) [] [.p 901 0, .p 902 0, .p 903 0])], [(901, (3, [I cap1])), (902, (3, [I cap2])), (903, (42, [V (.slice a2 cap3.length c2)]))]⟩) (by kernel_rfl) ?_
  intro a hS
  refine wcut (fun a w => ∃ (ρ : Nat → Nat) (χ : Nat → Nat), VC80_66_J1 Q ∧ St Try.f80.ntmps ⟨[], [(901, (3, [I cap1])), (902, (3, [I cap2])), (903, (42, [V (.slice a2 cap3.length c2)]))]⟩ ρ a w χ ∧ OldR (f0of [(i1, 901), (i2, 902), (i3, 903)]) w0 χ0 w χ ∧ Pin [(901, b1), (902, b2), (903, b3)] ρ ∧ RS tI w χ a2 cap3 c2) ?_ ?_
  · refine regP T hS (sp := []) (ks := [0, 1, 7, 8]) (bs := [901, 902, 903]) (sy' := ⟨[(0, V (.slice a1 s_.length c1)), (1, .f (.func 66) [] [.p 901 0, .p 902 0, .p 903 0]), (7, I ((s_.length : Nat) : Int)), (8, I 0)], [(901, (3, [I cap1])), (902, (3, [I cap2])), (903, (42, [V (.slice a2 cap3.length c2)]))]⟩) (by kernel_rfl) ?_
    intro a hS
    refine wblock ?_
    obtain ⟨I1, μ1, hm0, hm⟩ := hm
    refine wloop (σ := Int) (fun s a w => ∃ (ρ : Nat → Nat) (χ : Nat → Nat), I1 s ∧ St Try.f80.ntmps ⟨[(0, V (.slice a1 s_.length c1)), (1, .f (.func 66) [] [.p 901 0, .p 902 0, .p 903 0]), (7, I ((s_.length : Nat) : Int)), (8, I s)], [(901, (3, [I cap1])), (902, (3, [I cap2])), (903, (42, [V (.slice a2 cap3.length c2)]))]⟩ ρ a w χ ∧ OldR (f0of [(i1, 901), (i2, 902), (i3, 903)]) w0 χ0 w χ ∧ Pin [(901, b1), (902, b2), (903, b3)] ρ ∧ RS tP2 w χ a1 s_ c1 ∧ RS tI w χ a2 cap3 c2) (fun s => μ1 s) (0) ?_ ?_
    · exact ⟨ρ, _, hm0, hS.sel [0, 1, 7, 8] [901, 902, 903] (by kernel_rfl), hO, hP, h1, h2⟩
    · rintro x_103 a w116 ⟨ρ, χ115, hI, hS, hO, hP, h102, h104⟩
      replace hm := hm x_103 hI
      clear hI hm0
      refine regP T hS (sp := []) (ks := [0, 1, 7, 8, 9]) (bs := [901, 902, 903]) (sy' := ⟨[(0, V (.slice a1 s_.length c1)), (1, .f (.func 66) [] [.p 901 0, .p 902 0, .p 903 0]), (7, I ((s_.length : Nat) : Int)), (8, I x_103), (9, B (decide (x_103 < ((s_.length : Nat) : Int))))], [(901, (3, [I cap1])), (902, (3, [I cap2])), (903, (42, [V (.slice a2 cap3.length c2)]))]⟩) (by kernel_rfl) ?_
      intro a hS
      refine wseq ?_
      refine wcond hS (b := decide (x_103 < ((s_.length : Nat) : Int))) (by kernel_rfl) (fun hb => ?_) (fun hb => ?_)
      · replace hm := hm.1 hb
        refine wskip ?_
        refine wseq ?_
        refine wblock ?_
        refine regP T hS (sp := []) (ks := [0, 1, 5, 7, 8]) (bs := [901, 902, 903]) (sy' := ⟨[(0, V (.slice a1 s_.length c1)), (1, .f (.func 66) [] [.p 901 0, .p 902 0, .p 903 0]), (5, I x_103), (7, I ((s_.length : Nat) : Int)), (8, I x_103)], [(901, (3, [I cap1])), (902, (3, [I cap2])), (903, (42, [V (.slice a2 cap3.length c2)]))]⟩) (by kernel_rfl) ?_
        intro a hS
        refine regO ?_
        refine opsP T hS 3 (sp := []) (ks := [0, 1, 5, 7, 8, 11, 12, 13]) (bs := [901, 902, 903]) (sy' := ⟨[(0, V (.slice a1 s_.length c1)), (1, .f (.func 66) [] [.p 901 0, .p 902 0, .p 903 0]), (5, I x_103), (7, I ((s_.length : Nat) : Int)), (8, I x_103), (11, .f (.func 66) [] [.p 901 0, .p 902 0, .p 903 0]), (12, V (.slice a1 s_.length c1)), (13, I x_103)], [(901, (3, [I cap1])), (902, (3, [I cap2])), (903, (42, [V (.slice a2 cap3.length c2)]))]⟩) (by kernel_rfl) ?_
        intro a hS
        obtain ⟨hq, hm⟩ := hm
        refine op1 (index (e := 68) (k := .i64) T hS (by kernel_rfl) (by kernel_rfl) (by kernel_rfl) (by kernel_rfl) h102 (by kernel_rfl) (by kernel_rfl) hq.1 hq.2 ?_)
        intro A105 a h106 hS
        clear hq
        refine op1 (loadA T hS (by kernel_rfl) (by kernel_rfl) (by kernel_rfl) h106 (by kernel_rfl) (by kernel_rfl) ?_)
        intro v107 a hv hS
        subst hv
        refine op1 (callCR (fi := []) (cp := [.p 901 0, .p 902 0, .p 903 0]) hS (by kernel_rfl) (by kernel_rfl) hb66 (by kernel_rfl) (by kernel_rfl) (k66 _ _ (gi s_ x_103) cap1 cap2 cap3 a2 c2 (ρ 901) 901 (ρ 902) 902 (ρ 903) 903 h104 (hS.cell (id := 901) (t := 3) (cs := [I cap1]) (by kernel_rfl)) (hS.cell (id := 902) (t := 3) (cs := [I cap2]) (by kernel_rfl)) (hS.cell (id := 903) (t := 42) (cs := [V (.slice a2 cap3.length c2)]) (by kernel_rfl)) ⟨by decide, by decide⟩) ?_)
        intro v108 a w109 χ110 hE hp hS
        replace hO := hO.mv hE rfl rfl
        replace h102 := h102.mv hE rfl
        replace h104 := h104.mv hE rfl
        replace h106 := h106.mv hE rfl
        clear hE
        obtain ⟨hp, hc112, hc113, hc114⟩ := hp
        obtain ⟨r111, hr⟩ : ∃ r, times_Sort_1_1 (gi s_ x_103) cap1 cap2 cap3 = r := ⟨_, rfl⟩
        replace hm := hm r111 hr
        rw [hr] at hp
        clear hr
        subst hp
        replace hS := hS.addbox (id := 901) (t := 3) (cs := [I cap1]) (by kernel_rfl) hc112
        replace hS := hS.addbox (id := 902) (t := 3) (cs := [I cap2]) (by kernel_rfl) hc113
        replace hS := hS.addbox (id := 903) (t := 42) (cs := [V (.slice a2 cap3.length c2)]) (by kernel_rfl) hc114
        clear hc112 hc113 hc114
        refine doneK ?_
        refine wcond hS (b := r111) (by kernel_rfl) (fun hb => ?_) (fun hb => ?_)
        · replace hm := hm.1 hb
          refine regP T hS (sp := []) (ks := [4]) (bs := [901, 902, 903]) (sy' := ⟨[(4, I x_103)], [(901, (3, [I cap1])), (902, (3, [I cap2])), (903, (42, [V (.slice a2 cap3.length c2)]))]⟩) (by kernel_rfl) ?_
          intro a hS
          refine wret ?_
          exact finR T hS hO (fun c h => f0of_zero (by kernel_rfl) h) (fun c h => f0of_else (l := [(i1, 901), (i2, 902), (i3, 903)]) h) (f1of [(i1, 901), (i2, 902), (i3, 903)]) rfl (r := [.int .i64 x_103]) (by kernel_rfl) (fun χ' hM hC => ⟨x_103, hm, rfl, ((hS.cell (id := 901) (t := 3) (cs := [I cap1]) (by kernel_rfl)).out (f := (f1of [(i1, 901), (i2, 902), (i3, 903)])) hC (by kernel_rfl) (by kernel_rfl) (hP.at 0 rfl)), ((hS.cell (id := 902) (t := 3) (cs := [I cap2]) (by kernel_rfl)).out (f := (f1of [(i1, 901), (i2, 902), (i3, 903)])) hC (by kernel_rfl) (by kernel_rfl) (hP.at 1 rfl)), ((hS.cell (id := 903) (t := 42) (cs := [V (.slice a2 cap3.length c2)]) (by kernel_rfl)).out (f := (f1of [(i1, 901), (i2, 902), (i3, 903)])) hC (by kernel_rfl) (by kernel_rfl) (hP.at 2 rfl))⟩)
        · replace hm := hm.2 hb
          refine wskip ?_
          refine region (endP T hS (sp := []) (ks := [0, 1, 7, 8]) (bs := [901, 902, 903]) (sy' := ⟨[(0, V (.slice a1 s_.length c1)), (1, .f (.func 66) [] [.p 901 0, .p 902 0, .p 903 0]), (7, I ((s_.length : Nat) : Int)), (8, I (IntKind.i64.wrap (x_103 + 1)))], [(901, (3, [I cap1])), (902, (3, [I cap2])), (903, (42, [V (.slice a2 cap3.length c2)]))]⟩) (by kernel_rfl) ?_)
          intro a hS
          exact ⟨IntKind.i64.wrap (x_103 + 1), ⟨ρ, _, hm.1, hS.sel [0, 1, 7, 8] [901, 902, 903] (by kernel_rfl), hO, hP, h102, h104⟩, hm.2⟩
      · replace hm := hm.2 hb
        refine wexit (by rfl) ?_
        exact ⟨ρ, _, hm, hS.sel [] [901, 902, 903] (by kernel_rfl), hO, hP, h104⟩
  · rintro a w118 ⟨ρ, χ117, hm, hS, hO, hP, h101⟩
    unfold VC80_66_J1 at hm
    refine regP T hS (sp := []) (ks := [4]) (bs := [901, 902, 903]) (sy' := ⟨[(4, I (-1))], [(901, (3, [I cap1])), (902, (3, [I cap2])), (903, (42, [V (.slice a2 cap3.length c2)]))]⟩) (by kernel_rfl) ?_
    intro a hS
    refine wret ?_
    exact finR T hS hO (fun c h => f0of_zero (by kernel_rfl) h) (fun c h => f0of_else (l := [(i1, 901), (i2, 902), (i3, 903)]) h) (f1of [(i1, 901), (i2, 902), (i3, 903)]) rfl (r := [.int .i64 (-1)]) (by kernel_rfl) (fun χ' hM hC => ⟨(-1), hm, rfl, ((hS.cell (id := 901) (t := 3) (cs := [I cap1]) (by kernel_rfl)).out (f := (f1of [(i1, 901), (i2, 902), (i3, 903)])) hC (by kernel_rfl) (by kernel_rfl) (hP.at 0 rfl)), ((hS.cell (id := 902) (t := 3) (cs := [I cap2]) (by kernel_rfl)).out (f := (f1of [(i1, 901), (i2, 902), (i3, 903)])) hC (by kernel_rfl) (by kernel_rfl) (hP.at 1 rfl)), ((hS.cell (id := 903) (t := 42) (cs := [V (.slice a2 cap3.length c2)]) (by kernel_rfl)).out (f := (f1of [(i1, 901), (i2, 902), (i3, 903)])) hC (by kernel_rfl) (by kernel_rfl) (hP.at 2 rfl))⟩)
theorem C80_66 (k66 : S66) (v : ∀ (s_ : List (Int × Int)) (cap1 : Int) (cap2 : Int) (cap3 : List Int), VC80_66 s_ cap1 cap2 cap3 (fun r => r = slices_IndexFunc_2_int_2_int_times_Sort_1_1 s_ cap1 cap2 cap3)) : S80_66 := by
  intro w χ s_ cap1 cap2 cap3 a1 c1 a2 c2  b1 i1 b2 i2 b3 i3 h1 h2 hc1 hc2 hc3 hA
  refine (W80_66 k66 w χ s_ cap1 cap2 cap3 a1 c1 a2 c2  b1 i1 b2 i2 b3 i3 _ (v s_ cap1 cap2 cap3) h1 h2 hc1 hc2 hc3 hA).mono ?_
  rintro _ _ _ _ ⟨r, rfl, h⟩
  exact h
def S69_66 : Prop := ∀ (w : World) (χ : Nat → Nat) (s_ : List (Int × Int)) (cap1 : Int) (cap2 : Int) (cap3 : List Int) (a1 : Option Addr) (c1 : Nat) (a2 : Option Addr) (c2 : Nat) (b1 : Nat) (i1 : Nat) (b2 : Nat) (i2 : Nat) (b3 : Nat) (i3 : Nat), RS tP2 w χ a1 s_ c1 → RS tI w χ a2 cap3 c2 → Cell w χ b1 i1 3 [.int .i64 cap1] → Cell w χ b2 i2 3 [.int .i64 cap2] → Cell w χ b3 i3 42 [.slice a2 cap3.length c2] → Apart [i1, i2, i3] → Ret Try.prog 69 #[.slice a1 s_.length c1, .func (.func 66) #[] #[.pointer (some ⟨b1, 0, none⟩), .pointer (some ⟨b2, 0, none⟩), .pointer (some ⟨b3, 0, none⟩)]] (pR [i1, i2, i3]) w χ (fun w χ' v => v = .bool (slices_ContainsFunc_2_int_2_int_times_Sort_1_1 s_ cap1 cap2 cap3) ∧ Cell w χ' b1 i1 3 [.int .i64 cap1] ∧ Cell w χ' b2 i2 3 [.int .i64 cap2] ∧ Cell w χ' b3 i3 42 [.slice a2 cap3.length c2])
theorem hb69 : hasBody Try.prog 69 = true := by kernel_rfl
/-- slices.ContainsFunc[[][2]int,[2]int] -/
theorem W69_66 (k80_66 : S80_66) (w0 : World) (χ0 : Nat → Nat) (s_ : List (Int × Int)) (cap1 : Int) (cap2 : Int) (cap3 : List Int) (a1 : Option Addr) (c1 : Nat) (a2 : Option Addr) (c2 : Nat) (b1 : Nat) (i1 : Nat) (b2 : Nat) (i2 : Nat) (b3 : Nat) (i3 : Nat) (Q : Bool → Prop) (hm : VC69_66 s_ cap1 cap2 cap3 Q) (h1 : RS tP2 w0 χ0 a1 s_ c1) (h2 : RS tI w0 χ0 a2 cap3 c2) (hc1 : Cell w0 χ0 b1 i1 3 [.int .i64 cap1]) (hc2 : Cell w0 χ0 b2 i2 3 [.int .i64 cap2]) (hc3 : Cell w0 χ0 b3 i3 42 [.slice a2 cap3.length c2]) (hA : Apart [i1, i2, i3]) :
    Ret Try.prog 69 #[.slice a1 s_.length c1, .func (.func 66) #[] #[.pointer (some ⟨b1, 0, none⟩), .pointer (some ⟨b2, 0, none⟩), .pointer (some ⟨b3, 0, none⟩)]] (pR [i1, i2, i3]) w0 χ0 (fun w χ' v => ∃ r, Q r ∧ v = .bool r ∧ Cell w χ' b1 i1 3 [.int .i64 cap1] ∧ Cell w χ' b2 i2 3 [.int .i64 cap2] ∧ Cell w χ' b3 i3 42 [.slice a2 cap3.length c2]) := by
  unfold VC69_66 at hm
  replace hm := hm (h1.sm (by kernel_rfl))
  replace hm := hm (h2.sm (by kernel_rfl))
  refine enterR Try.func69 rfl (f0of [(i1, 901), (i2, 902), (i3, 903)]) (fun id => (bif Nat.beq id 901 then b1 else (bif Nat.beq id 902 then b2 else (bif Nat.beq id 903 then b3 else 0)))) (args := [V (.slice a1 s_.length c1), .f (.func 66) [] [.p 901 0, .p 902 0, .p 903 0]]) (bxs := [(901, (3, [I cap1])), (902, (3, [I cap2])), (903, (42, [V (.slice a2 cap3.length c2)]))]) (by kernel_rfl) rfl (BoxesOK.cons (by kernel_rfl) (hc1.map (f0of_at 0 hA.1 rfl)) (BoxesOK.cons (by kernel_rfl) (hc2.map (f0of_at 1 hA.1 rfl)) (BoxesOK.cons (by kernel_rfl) (hc3.map (f0of_at 2 hA.1 rfl)) BoxesOK.nil))) (f0of_0 (fun q hq => (hA.2 q.1 (List.mem_map.2 ⟨q, hq, rfl⟩)).1)) ?_
  intro a hS hO hM
  have hP : Pin [(901, b1), (902, b2), (903, b3)] (fun id => (bif Nat.beq id 901 then b1 else (bif Nat.beq id 902 then b2 else (bif Nat.beq id 903 then b3 else 0)))) := by intro q hq; simp at hq; rcases hq with rfl | rfl | rfl <;> rfl
  generalize (fun id => (bif Nat.beq id 901 then b1 else (bif Nat.beq id 902 then b2 else (bif Nat.beq id 903 then b3 else 0)))) = ρ at hS hP
  clear hc1 hc2 hc3
  replace h1 := h1.m0 hM
  replace h2 := h2.m0 hM
  clear hM
  refine regP T hS (sp := []) (ks := [0, 1]) (bs := [901, 902, 903]) (sy' := ⟨[(0, V (.slice a1 s_.length c1)), (1, .f (.func 66) [] [.p 901 0, .p 902 0, .p 903 0])], [(901, (3, [I cap1])), (902, (3, [I cap2])), (903, (42, [V (.slice a2 cap3.length c2)]))]⟩) (by kernel_rfl) ?_
  intro a hS
  refine regO ?_
  refine opsP T hS 2 (sp := []) (ks := [5, 6]) (bs := [901, 902, 903]) (sy' := ⟨[(5, V (.slice a1 s_.length c1)), (6, .f (.func 66) [] [.p 901 0, .p 902 0, .p 903 0])], [(901, (3, [I cap1])), (902, (3, [I cap2])), (903, (42, [V (.slice a2 cap3.length c2)]))]⟩) (by kernel_rfl) ?_
  intro a hS
  refine op1 (callR hS (by kernel_rfl) (by kernel_rfl) hb80 (by kernel_rfl) (k80_66 _ _ s_ cap1 cap2 cap3 a1 c1 a2 c2 (ρ 901) 901 (ρ 902) 902 (ρ 903) 903 h1 h2 (hS.cell (id := 901) (t := 3) (cs := [I cap1]) (by kernel_rfl)) (hS.cell (id := 902) (t := 3) (cs := [I cap2]) (by kernel_rfl)) (hS.cell (id := 903) (t := 42) (cs := [V (.slice a2 cap3.length c2)]) (by kernel_rfl)) ⟨by decide, by decide⟩) ?_)
  intro v101 a w102 χ103 hE hp hS
  replace hO := hO.mv hE rfl rfl
  replace h1 := h1.mv hE rfl
  replace h2 := h2.mv hE rfl
  clear hE
  obtain ⟨hp, hc105, hc106, hc107⟩ := hp
  obtain ⟨r104, hr⟩ : ∃ r, slices_IndexFunc_2_int_2_int_times_Sort_1_1 s_ cap1 cap2 cap3 = r := ⟨_, rfl⟩
  replace hm := hm r104 hr
  rw [hr] at hp
  clear hr
  subst hp
  replace hS := hS.addbox (id := 901) (t := 3) (cs := [I cap1]) (by kernel_rfl) hc105
  replace hS := hS.addbox (id := 902) (t := 3) (cs := [I cap2]) (by kernel_rfl) hc106
  replace hS := hS.addbox (id := 903) (t := 42) (cs := [V (.slice a2 cap3.length c2)]) (by kernel_rfl) hc107
  clear hc105 hc106 hc107
  refine endP T hS (sp := []) (ks := [4]) (bs := [901, 902, 903]) (sy' := ⟨[(4, B (decide (r104 ≥ 0)))], [(901, (3, [I cap1])), (902, (3, [I cap2])), (903, (42, [V (.slice a2 cap3.length c2)]))]⟩) (by kernel_rfl) ?_
  intro a hS
  refine wret ?_
  exact finR T hS hO (fun c h => f0of_zero (by kernel_rfl) h) (fun c h => f0of_else (l := [(i1, 901), (i2, 902), (i3, 903)]) h) (f1of [(i1, 901), (i2, 902), (i3, 903)]) rfl (r := [.bool (decide (r104 ≥ 0))]) (by kernel_rfl) (fun χ' hM hC => ⟨(decide (r104 ≥ 0)), hm, rfl, ((hS.cell (id := 901) (t := 3) (cs := [I cap1]) (by kernel_rfl)).out (f := (f1of [(i1, 901), (i2, 902), (i3, 903)])) hC (by kernel_rfl) (by kernel_rfl) (hP.at 0 rfl)), ((hS.cell (id := 902) (t := 3) (cs := [I cap2]) (by kernel_rfl)).out (f := (f1of [(i1, 901), (i2, 902), (i3, 903)])) hC (by kernel_rfl) (by kernel_rfl) (hP.at 1 rfl)), ((hS.cell (id := 903) (t := 42) (cs := [V (.slice a2 cap3.length c2)]) (by kernel_rfl)).out (f := (f1of [(i1, 901), (i2, 902), (i3, 903)])) hC (by kernel_rfl) (by kernel_rfl) (hP.at 2 rfl))⟩)
theorem C69_66 (k80_66 : S80_66) (v : ∀ (s_ : List (Int × Int)) (cap1 : Int) (cap2 : Int) (cap3 : List Int), VC69_66 s_ cap1 cap2 cap3 (fun r => r = slices_ContainsFunc_2_int_2_int_times_Sort_1_1 s_ cap1 cap2 cap3)) : S69_66 := by
  intro w χ s_ cap1 cap2 cap3 a1 c1 a2 c2  b1 i1 b2 i2 b3 i3 h1 h2 hc1 hc2 hc3 hA
  refine (W69_66 k80_66 w χ s_ cap1 cap2 cap3 a1 c1 a2 c2  b1 i1 b2 i2 b3 i3 _ (v s_ cap1 cap2 cap3) h1 h2 hc1 hc2 hc3 hA).mono ?_
  rintro _ _ _ _ ⟨r, rfl, h⟩
  exact h
def S65 : Prop := ∀ (w : World) (χ : Nat → Nat) (x_ : Int) (cap1 : Int) (cap2 : List Int) (cap3 : List (Int × Int)) (a1 : Option Addr) (c1 : Nat) (a2 : Option Addr) (c2 : Nat) (b1 : Nat) (i1 : Nat) (b2 : Nat) (i2 : Nat) (b3 : Nat) (i3 : Nat), RS tI w χ a1 cap2 c1 → RS tP2 w χ a2 cap3 c2 → Cell w χ b1 i1 3 [.int .i64 cap1] → Cell w χ b2 i2 42 [.slice a1 cap2.length c1] → Cell w χ b3 i3 61 [.slice a2 cap3.length c2] → Apart [i1, i2, i3] → Ret Try.prog 65 #[.int .i64 x_, .pointer (some ⟨b1, 0, none⟩), .pointer (some ⟨b2, 0, none⟩), .pointer (some ⟨b3, 0, none⟩)] (pR [i1, i2, i3]) w χ (fun w χ' v => v = .bool (times_Sort_1 x_ cap1 cap2 cap3) ∧ Cell w χ' b1 i1 3 [.int .i64 cap1] ∧ Cell w χ' b2 i2 42 [.slice a1 cap2.length c1] ∧ Cell w χ' b3 i3 61 [.slice a2 cap3.length c2])
theorem hb65 : hasBody Try.prog 65 = true := by kernel_rfl
/-- replevin/times.Sort$1 -/
theorem W65 (k68 : S68) (k69_66 : S69_66) (w0 : World) (χ0 : Nat → Nat) (x_ : Int) (cap1 : Int) (cap2 : List Int) (cap3 : List (Int × Int)) (a1 : Option Addr) (c1 : Nat) (a2 : Option Addr) (c2 : Nat) (b1 : Nat) (i1 : Nat) (b2 : Nat) (i2 : Nat) (b3 : Nat) (i3 : Nat) (Q : Bool → Prop) (hm : VC65 x_ cap1 cap2 cap3 Q) (h1 : RS tI w0 χ0 a1 cap2 c1) (h2 : RS tP2 w0 χ0 a2 cap3 c2) (hc1 : Cell w0 χ0 b1 i1 3 [.int .i64 cap1]) (hc2 : Cell w0 χ0 b2 i2 42 [.slice a1 cap2.length c1]) (hc3 : Cell w0 χ0 b3 i3 61 [.slice a2 cap3.length c2]) (hA : Apart [i1, i2, i3]) :
    Ret Try.prog 65 #[.int .i64 x_, .pointer (some ⟨b1, 0, none⟩), .pointer (some ⟨b2, 0, none⟩), .pointer (some ⟨b3, 0, none⟩)] (pR [i1, i2, i3]) w0 χ0 (fun w χ' v => ∃ r, Q r ∧ v = .bool r ∧ Cell w χ' b1 i1 3 [.int .i64 cap1] ∧ Cell w χ' b2 i2 42 [.slice a1 cap2.length c1] ∧ Cell w χ' b3 i3 61 [.slice a2 cap3.length c2]) := by
  unfold VC65 at hm
  replace hm := hm (h1.sm (by kernel_rfl))
  replace hm := hm (h2.sm (by kernel_rfl))
  refine enterR Try.func65 rfl (f0of [(i1, 901), (i2, 902), (i3, 903)]) (fun id => (bif Nat.beq id 901 then b1 else (bif Nat.beq id 902 then b2 else (bif Nat.beq id 903 then b3 else 0)))) (args := [I x_, Pt 901 0, Pt 902 0, Pt 903 0]) (bxs := [(901, (3, [I cap1])), (902, (42, [V (.slice a1 cap2.length c1)])), (903, (61, [V (.slice a2 cap3.length c2)]))]) (by kernel_rfl) rfl (BoxesOK.cons (by kernel_rfl) (hc1.map (f0of_at 0 hA.1 rfl)) (BoxesOK.cons (by kernel_rfl) (hc2.map (f0of_at 1 hA.1 rfl)) (BoxesOK.cons (by kernel_rfl) (hc3.map (f0of_at 2 hA.1 rfl)) BoxesOK.nil))) (f0of_0 (fun q hq => (hA.2 q.1 (List.mem_map.2 ⟨q, hq, rfl⟩)).1)) ?_
  intro a hS hO hM
  have hP : Pin [(901, b1), (902, b2), (903, b3)] (fun id => (bif Nat.beq id 901 then b1 else (bif Nat.beq id 902 then b2 else (bif Nat.beq id 903 then b3 else 0)))) := by intro q hq; simp at hq; rcases hq with rfl | rfl | rfl <;> rfl
  generalize (fun id => (bif Nat.beq id 901 then b1 else (bif Nat.beq id 902 then b2 else (bif Nat.beq id 903 then b3 else 0)))) = ρ at hS hP
  clear hc1 hc2 hc3
  replace h1 := h1.m0 hM
  replace h2 := h2.m0 hM
  clear hM
  refine regM T hS (sp := []) (ks := [1, 2, 3, 4]) (bs := [5, 901, 902, 903]) (sy' := ⟨[(1, Pt 901 0), (2, Pt 902 0), (3, Pt 903 0), (4, Pt 5 0)], [(5, (3, [I x_])), (901, (3, [I cap1])), (902, (42, [V (.slice a1 cap2.length c1)])), (903, (61, [V (.slice a2 cap3.length c2)]))]⟩) (by kernel_rfl) ?_
  intro ρ a w112 χ113 hS hE hr
  replace hO := hO.mv hE rfl rfl
  replace h1 := h1.mv hE rfl
  replace h2 := h2.mv hE rfl
  replace hP := hP.mv hr (by kernel_rfl)
  clear hE hr
  refine regP T hS (sp := []) (ks := [2, 3, 4, 6]) (bs := [5, 901, 902, 903]) (sy' := ⟨[(2, Pt 902 0), (3, Pt 903 0), (4, Pt 5 0), (6, .f (.func 66) [] [.p 901 0, .p 5 0, .p 902 0])], [(5, (3, [I x_])), (901, (3, [I cap1])), (902, (42, [V (.slice a1 cap2.length c1)])), (903, (61, [V (.slice a2 cap3.length c2)]))]⟩) (by kernel_rfl) ?_
  intro a hS
  refine regO ?_
  refine opsP T hS 2 (sp := []) (ks := [3, 6, 8, 9]) (bs := [5, 901, 902, 903]) (sy' := ⟨[(3, Pt 903 0), (6, .f (.func 66) [] [.p 901 0, .p 5 0, .p 902 0]), (8, V (.slice a1 cap2.length c1)), (9, I x_)], [(5, (3, [I x_])), (901, (3, [I cap1])), (902, (42, [V (.slice a1 cap2.length c1)])), (903, (61, [V (.slice a2 cap3.length c2)]))]⟩) (by kernel_rfl) ?_
  intro a hS
  refine op1 (call hS (by kernel_rfl) (by kernel_rfl) hb68 (by kernel_rfl) (fun _ _ => rfl) (k68 _ _ cap2 x_ a1 c1 h1) ?_)
  intro v101 a w102 χ103 hE hp hS
  replace hO := hO.mv hE rfl rfl
  replace h1 := h1.mv hE rfl
  replace h2 := h2.mv hE rfl
  clear hE
  obtain ⟨r104, hr⟩ : ∃ r, slices_Contains_int_int cap2 x_ = r := ⟨_, rfl⟩
  replace hm := hm r104 hr
  rw [hr] at hp
  clear hr
  subst hp
  refine opsP T hS 1 (sp := []) (ks := [3, 6, 11]) (bs := [5, 901, 902, 903]) (sy' := ⟨[(3, Pt 903 0), (6, .f (.func 66) [] [.p 901 0, .p 5 0, .p 902 0]), (11, B r104)], [(5, (3, [I x_])), (901, (3, [I cap1])), (902, (42, [V (.slice a1 cap2.length c1)])), (903, (61, [V (.slice a2 cap3.length c2)]))]⟩) (by kernel_rfl) ?_
  intro a hS
  rcases Bool.eq_false_or_eq_true r104 with hb | hb
  · replace hS := hS.lit (t := 11) (by kernel_rfl) hb
    replace hm := hm.1 hb
    refine endP T hS (sp := []) (ks := [5]) (bs := [901, 902, 903]) (sy' := ⟨[(5, B true)], [(901, (3, [I cap1])), (902, (42, [V (.slice a1 cap2.length c1)])), (903, (61, [V (.slice a2 cap3.length c2)]))]⟩) (by kernel_rfl) ?_
    intro a hS
    refine wret ?_
    exact finR T hS hO (fun c h => f0of_zero (by kernel_rfl) h) (fun c h => f0of_else (l := [(i1, 901), (i2, 902), (i3, 903)]) h) (f1of [(i1, 901), (i2, 902), (i3, 903)]) rfl (r := [.bool true]) (by kernel_rfl) (fun χ' hM hC => ⟨true, hm, rfl, ((hS.cell (id := 901) (t := 3) (cs := [I cap1]) (by kernel_rfl)).out (f := (f1of [(i1, 901), (i2, 902), (i3, 903)])) hC (by kernel_rfl) (by kernel_rfl) (hP.at 0 rfl)), ((hS.cell (id := 902) (t := 42) (cs := [V (.slice a1 cap2.length c1)]) (by kernel_rfl)).out (f := (f1of [(i1, 901), (i2, 902), (i3, 903)])) hC (by kernel_rfl) (by kernel_rfl) (hP.at 1 rfl)), ((hS.cell (id := 903) (t := 61) (cs := [V (.slice a2 cap3.length c2)]) (by kernel_rfl)).out (f := (f1of [(i1, 901), (i2, 902), (i3, 903)])) hC (by kernel_rfl) (by kernel_rfl) (hP.at 2 rfl))⟩)
  · replace hS := hS.lit (t := 11) (by kernel_rfl) hb
    replace hm := hm.2 hb
    refine opsP T hS 2 (sp := []) (ks := [11, 12, 13]) (bs := [5, 901, 902, 903]) (sy' := ⟨[(11, B false), (12, V (.slice a2 cap3.length c2)), (13, .f (.func 66) [] [.p 901 0, .p 5 0, .p 902 0])], [(5, (3, [I x_])), (901, (3, [I cap1])), (902, (42, [V (.slice a1 cap2.length c1)])), (903, (61, [V (.slice a2 cap3.length c2)]))]⟩) (by kernel_rfl) ?_
    intro a hS
    refine op1 (callR hS (by kernel_rfl) (by kernel_rfl) hb69 (by kernel_rfl) (k69_66 _ _ cap3 cap1 x_ cap2 a2 c2 a1 c1 (ρ 901) 901 (ρ 5) 5 (ρ 902) 902 h2 h1 (hS.cell (id := 901) (t := 3) (cs := [I cap1]) (by kernel_rfl)) (hS.cell (id := 5) (t := 3) (cs := [I x_]) (by kernel_rfl)) (hS.cell (id := 902) (t := 42) (cs := [V (.slice a1 cap2.length c1)]) (by kernel_rfl)) ⟨by decide, by decide⟩) ?_)
    intro v105 a w106 χ107 hE hp hS
    replace hO := hO.mv hE rfl rfl
    replace h1 := h1.mv hE rfl
    replace h2 := h2.mv hE rfl
    clear hE
    obtain ⟨hp, hc109, hc110, hc111⟩ := hp
    obtain ⟨r108, hr⟩ : ∃ r, slices_ContainsFunc_2_int_2_int_times_Sort_1_1 cap3 cap1 x_ cap2 = r := ⟨_, rfl⟩
    replace hm := hm r108 hr
    rw [hr] at hp
    clear hr
    subst hp
    replace hS := hS.addbox (id := 901) (t := 3) (cs := [I cap1]) (by kernel_rfl) hc109
    replace hS := hS.addbox (id := 5) (t := 3) (cs := [I x_]) (by kernel_rfl) hc110
    replace hS := hS.addbox (id := 902) (t := 42) (cs := [V (.slice a1 cap2.length c1)]) (by kernel_rfl) hc111
    clear hc109 hc110 hc111
    refine endP T hS (sp := []) (ks := [5]) (bs := [901, 902, 903]) (sy' := ⟨[(5, B r108)], [(901, (3, [I cap1])), (902, (42, [V (.slice a1 cap2.length c1)])), (903, (61, [V (.slice a2 cap3.length c2)]))]⟩) (by kernel_rfl) ?_
    intro a hS
    refine wret ?_
    exact finR T hS hO (fun c h => f0of_zero (by kernel_rfl) h) (fun c h => f0of_else (l := [(i1, 901), (i2, 902), (i3, 903)]) h) (f1of [(i1, 901), (i2, 902), (i3, 903)]) rfl (r := [.bool r108]) (by kernel_rfl) (fun χ' hM hC => ⟨r108, hm, rfl, ((hS.cell (id := 901) (t := 3) (cs := [I cap1]) (by kernel_rfl)).out (f := (f1of [(i1, 901), (i2, 902), (i3, 903)])) hC (by kernel_rfl) (by kernel_rfl) (hP.at 0 rfl)), ((hS.cell (id := 902) (t := 42) (cs := [V (.slice a1 cap2.length c1)]) (by kernel_rfl)).out (f := (f1of [(i1, 901), (i2, 902), (i3, 903)])) hC (by kernel_rfl) (by kernel_rfl) (hP.at 1 rfl)), ((hS.cell (id := 903) (t := 61) (cs := [V (.slice a2 cap3.length c2)]) (by kernel_rfl)).out (f := (f1of [(i1, 901), (i2, 902), (i3, 903)])) hC (by kernel_rfl) (by kernel_rfl) (hP.at 2 rfl))⟩)
theorem C65 (k68 : S68) (k69_66 : S69_66) (v : ∀ (x_ : Int) (cap1 : Int) (cap2 : List Int) (cap3 : List (Int × Int)), VC65 x_ cap1 cap2 cap3 (fun r => r = times_Sort_1 x_ cap1 cap2 cap3)) : S65 := by
  intro w χ x_ cap1 cap2 cap3 a1 c1 a2 c2  b1 i1 b2 i2 b3 i3 h1 h2 hc1 hc2 hc3 hA
  refine (W65 k68 k69_66 w χ x_ cap1 cap2 cap3 a1 c1 a2 c2  b1 i1 b2 i2 b3 i3 _ (v x_ cap1 cap2 cap3) h1 h2 hc1 hc2 hc3 hA).mono ?_
  rintro _ _ _ _ ⟨r, rfl, h⟩
  exact h
def S40 : Prop := ∀ (w : World) (χ : Nat → Nat) (n_ : Int) (pairs : List (Int × Int)) (a1 : Option Addr) (c1 : Nat), RS tP2 w χ a1 pairs c1 → Ret Try.prog 40 #[.int .i64 n_, .slice a1 pairs.length c1] xnone w χ (fun w χ' v => ∃ (ra1 : Option Addr) (rc1 : Nat), v = .tuple #[.slice ra1 ((times_Sort n_ pairs).1).length rc1, .bool ((times_Sort n_ pairs).2)] ∧ RS tI w χ' ra1 ((times_Sort n_ pairs).1) rc1)
theorem hb40 : hasBody Try.prog 40 = true := by kernel_rfl
/-- replevin/times.Sort -/
theorem W40 (k65 : S65) (w0 : World) (χ0 : Nat → Nat) (n_ : Int) (pairs : List (Int × Int)) (a1 : Option Addr) (c1 : Nat) (Q : (List Int) × Bool → Prop) (hm : VC40 n_ pairs Q) (h1 : RS tP2 w0 χ0 a1 pairs c1) :
    Ret Try.prog 40 #[.int .i64 n_, .slice a1 pairs.length c1] xnone w0 χ0 (fun w χ' v => ∃ r, Q r ∧ ∃ (ra1 : Option Addr) (rc1 : Nat), v = .tuple #[.slice ra1 r.1.length rc1, .bool r.2] ∧ RS tI w χ' ra1 r.1 rc1) := by
  unfold VC40 at hm
  replace hm := hm (h1.sm (by kernel_rfl))
  refine enter Try.func40 rfl (vals := [.int .i64 n_, .slice a1 pairs.length c1]) (by kernel_rfl) ?_
  intro ρ a hS hO hM
  replace h1 := h1.m0 hM
  clear hM
  refine regM T hS (sp := []) (ks := [2, 3]) (bs := [3, 4]) (sy' := ⟨[(2, Pt 3 0), (3, Pt 4 0)], [(3, (3, [I n_])), (4, (61, [V (.slice a1 pairs.length c1)]))]⟩) (by kernel_rfl) ?_
  intro ρ a w167 χ168 hS hE hr
  replace hO := hO.mv hE rfl rfl
  replace h1 := h1.mv hE rfl
  clear hE hr
  refine wseq ?_
  refine regP T hS (sp := [11]) (ks := [2, 3, 14]) (bs := [3, 4]) (sy' := ⟨[(2, Pt 3 0), (3, Pt 4 0), (14, B ((decide (n_ < 0)) || (decide (n_ > 64))))], [(3, (3, [I n_])), (4, (61, [V (.slice a1 pairs.length c1)]))]⟩) (by kernel_rfl) ?_
  intro a hS
  refine wcond hS (b := ((decide (n_ < 0)) || (decide (n_ > 64)))) (by kernel_rfl) (fun hb => ?_) (fun hb => ?_)
  · replace hm := hm.1 hb
    refine regP T hS (sp := []) (ks := [4, 5]) (bs := []) (sy' := ⟨[(4, V (.slice none 0 0)), (5, B false)], []⟩) (by kernel_rfl) ?_
    intro a hS
    refine wret ?_
    exact fin T hS hO (fun c => c) rfl (r := [.slice none 0 0, .bool false]) (by kernel_rfl) (fun χ' hM hC => ⟨([], false), hm, none, 0, rfl, RS.empty _ _ _⟩)
  · replace hm := hm.2 hb
    refine wskip ?_
    refine regO ?_
    refine opsP T hS 1 (sp := []) (ks := [2, 3, 15]) (bs := [3, 4]) (sy' := ⟨[(2, Pt 3 0), (3, Pt 4 0), (15, I n_)], [(3, (3, [I n_])), (4, (61, [V (.slice a1 pairs.length c1)]))]⟩) (by kernel_rfl) ?_
    intro a hS
    obtain ⟨hq, hm⟩ := hm
    refine op1 (make (E := 3) (kl := .i64) (kc := .i64) (col := 1005) (T := tI) T 0 hS (by kernel_rfl) (by kernel_rfl) (by kernel_rfl) (by kernel_rfl) (by kernel_rfl) (by kernel_rfl) hq.1 hq.2.1 (by have := hq.2.2; simp only [tI, tInt, tBool, tStr, tSlice]; omega) (by have := hq.2.2; omega) (fun _ _ => rfl) ?_)
    intro b101 a w102 χ103 hE h104 hN hS
    clear hq hN
    replace hO := hO.mv hE rfl rfl
    replace h1 := h1.mv hE rfl
    clear hE
    replace hS := hS.conv (t := 16) (y := .slice (some ⟨b101, 0, none⟩) (List.replicate (0 : Int).toNat (0 : Int)).length n_.toNat) (by kernel_rfl) (by rw [List.length_replicate])
    refine endM T hS (sp := []) (ks := [2, 3, 6]) (bs := [3, 4, 7]) (sy' := ⟨[(2, Pt 3 0), (3, Pt 4 0), (6, Pt 7 0)], [(3, (3, [I n_])), (4, (61, [V (.slice a1 pairs.length c1)])), (7, (42, [V (.slice (some ⟨b101, 0, none⟩) (List.replicate (0 : Int).toNat (0 : Int)).length n_.toNat)]))]⟩) (by kernel_rfl) ?_
    intro ρ a w165 χ166 hS hE hr
    replace hO := hO.mv hE rfl rfl
    replace h1 := h1.mv hE rfl
    replace h104 := h104.mv hE rfl rfl
    clear hE hr
    refine regP T hS (sp := []) (ks := [2, 6, 7]) (bs := [3, 4, 7]) (sy' := ⟨[(2, Pt 3 0), (6, Pt 7 0), (7, .f (.func 65) [] [.p 3 0, .p 7 0, .p 4 0])], [(3, (3, [I n_])), (4, (61, [V (.slice a1 pairs.length c1)])), (7, (42, [V (.slice (some ⟨b101, 0, none⟩) (List.replicate (0 : Int).toNat (0 : Int)).length n_.toNat)]))]⟩) (by kernel_rfl) ?_
    intro a hS
    refine wcut (fun a w => ∃ (ρ : Nat → Nat) (χ : Nat → Nat) (x_105 : List Int) (a106 : Option Addr) (c107 : Nat), VC40_J1 Q x_105 ∧ St Try.f40.ntmps ⟨[(6, Pt 7 0)], [(7, (42, [V (.slice a106 x_105.length c107)]))]⟩ ρ a w χ ∧ Old w0 χ0 w χ ∧ OS tI 3 w χ 1005 a106 x_105 c107) ?_ ?_
    · refine wblock ?_
      obtain ⟨I1, μ1, hm0, hm⟩ := hm
      refine wloop (σ := (List Int)) (fun s a w => ∃ (ρ : Nat → Nat) (χ : Nat → Nat) (a113 : Option Addr) (c114 : Nat), I1 s ∧ St Try.f40.ntmps ⟨[(2, Pt 3 0), (6, Pt 7 0), (7, .f (.func 65) [] [.p 3 0, .p 7 0, .p 4 0])], [(3, (3, [I n_])), (4, (61, [V (.slice a1 pairs.length c1)])), (7, (42, [V (.slice a113 s.length c114)]))]⟩ ρ a w χ ∧ Old w0 χ0 w χ ∧ RS tP2 w χ a1 pairs c1 ∧ OS tI 3 w χ 1005 a113 s c114) (fun s => μ1 s) (List.replicate (0 : Int).toNat (0 : Int)) ?_ ?_
      · exact ⟨ρ, _, (some ⟨b101, 0, none⟩), n_.toNat, hm0, hS.sel [2, 6, 7] [3, 4, 7] (by kernel_rfl), hO, h1, h104⟩
      · rintro x_112 a w162 ⟨ρ, χ161, a113, c114, hI, hS, hO, h111, h115⟩
        replace hm := hm x_112 hI
        clear hI hm0
        refine wseq ?_
        refine regP T hS (sp := []) (ks := [2, 6, 7, 21]) (bs := [3, 4, 7]) (sy' := ⟨[(2, Pt 3 0), (6, Pt 7 0), (7, .f (.func 65) [] [.p 3 0, .p 7 0, .p 4 0]), (21, B (decide (((x_112.length : Nat) : Int) < n_)))], [(3, (3, [I n_])), (4, (61, [V (.slice a1 pairs.length c1)])), (7, (42, [V (.slice a113 x_112.length c114)]))]⟩) (by kernel_rfl) ?_
        intro a hS
        refine wcond hS (b := decide (((x_112.length : Nat) : Int) < n_)) (by kernel_rfl) (fun hb => ?_) (fun hb => ?_)
        · replace hm := hm.1 hb
          refine wskip ?_
          refine wblock ?_
          refine regP T hS (sp := []) (ks := [2, 6, 7, 8]) (bs := [3, 4, 7]) (sy' := ⟨[(2, Pt 3 0), (6, Pt 7 0), (7, .f (.func 65) [] [.p 3 0, .p 7 0, .p 4 0]), (8, I 0)], [(3, (3, [I n_])), (4, (61, [V (.slice a1 pairs.length c1)])), (7, (42, [V (.slice a113 x_112.length c114)]))]⟩) (by kernel_rfl) ?_
          intro a hS
          refine wcut (fun a w => ∃ (ρ : Nat → Nat) (χ : Nat → Nat) (x_116 : Int) (x_118 : List Int) (a119 : Option Addr) (c120 : Nat), VC40_J2 n_ Q I1 μ1 x_112 x_116 x_118 ∧ St Try.f40.ntmps ⟨[(2, Pt 3 0), (6, Pt 7 0), (7, .f (.func 65) [] [.p 3 0, .p 7 0, .p 4 0]), (8, I x_116)], [(3, (3, [I n_])), (4, (61, [V (.slice a1 pairs.length c1)])), (7, (42, [V (.slice a119 x_118.length c120)]))]⟩ ρ a w χ ∧ Old w0 χ0 w χ ∧ RS tP2 w χ a1 pairs c1 ∧ OS tI 3 w χ 1005 a119 x_118 c120) ?_ ?_
          · refine wblock ?_
            obtain ⟨I2, μ2, hm0, hm⟩ := hm
            refine wloop (σ := Int × (List Int)) (fun s a w => ∃ (ρ : Nat → Nat) (χ : Nat → Nat) (a136 : Option Addr) (c137 : Nat), I2 s.1 s.2 ∧ St Try.f40.ntmps ⟨[(2, Pt 3 0), (6, Pt 7 0), (7, .f (.func 65) [] [.p 3 0, .p 7 0, .p 4 0]), (8, I s.1)], [(3, (3, [I n_])), (4, (61, [V (.slice a1 pairs.length c1)])), (7, (42, [V (.slice a136 s.2.length c137)]))]⟩ ρ a w χ ∧ Old w0 χ0 w χ ∧ RS tP2 w χ a1 pairs c1 ∧ OS tI 3 w χ 1005 a136 s.2 c137) (fun s => μ2 s.1 s.2) (⟨0, x_112⟩) ?_ ?_
            · exact ⟨ρ, _, a113, c114, hm0, hS.sel [2, 6, 7, 8] [3, 4, 7] (by kernel_rfl), hO, h111, h115⟩
            · rintro ⟨x_133, x_135⟩ a w158 ⟨ρ, χ157, a136, c137, hI, hS, hO, h134, h138⟩
              replace hm := hm x_133 x_135 hI
              clear hI hm0
              refine wseq ?_
              refine wcut (fun a w => ∃ (ρ : Nat → Nat) (χ : Nat → Nat) (x_139 : Bool) (x_141 : List Int) (a142 : Option Addr) (c143 : Nat), VC40_J3 n_ Q I1 μ1 x_112 I2 μ2 x_133 x_135 x_139 x_141 ∧ St Try.f40.ntmps ⟨[(2, Pt 3 0), (6, Pt 7 0), (7, .f (.func 65) [] [.p 3 0, .p 7 0, .p 4 0]), (8, I x_133), (29, B x_139)], [(3, (3, [I n_])), (4, (61, [V (.slice a1 pairs.length c1)])), (7, (42, [V (.slice a142 x_141.length c143)]))]⟩ ρ a w χ ∧ Old w0 χ0 w χ ∧ RS tP2 w χ a1 pairs c1 ∧ OS tI 3 w χ 1005 a142 x_141 c143) ?_ ?_
              · refine region ?_
                refine opsP T hS 4 (sp := []) (ks := [2, 6, 7, 8, 25]) (bs := [3, 4, 7]) (sy' := ⟨[(2, Pt 3 0), (6, Pt 7 0), (7, .f (.func 65) [] [.p 3 0, .p 7 0, .p 4 0]), (8, I x_133), (25, B (decide (x_133 < n_)))], [(3, (3, [I n_])), (4, (61, [V (.slice a1 pairs.length c1)])), (7, (42, [V (.slice a136 x_135.length c137)]))]⟩) (by kernel_rfl) ?_
                intro a hS
                rcases Bool.eq_false_or_eq_true (decide (x_133 < n_)) with hb | hb
                · replace hS := hS.lit (t := 25) (by kernel_rfl) hb
                  replace hm := hm.1 hb
                  refine opsP T hS 2 (sp := []) (ks := [2, 6, 7, 8, 25, 26, 27]) (bs := [3, 4, 7]) (sy' := ⟨[(2, Pt 3 0), (6, Pt 7 0), (7, .f (.func 65) [] [.p 3 0, .p 7 0, .p 4 0]), (8, I x_133), (25, B true), (26, .f (.func 65) [] [.p 3 0, .p 7 0, .p 4 0]), (27, I x_133)], [(3, (3, [I n_])), (4, (61, [V (.slice a1 pairs.length c1)])), (7, (42, [V (.slice a136 x_135.length c137)]))]⟩) (by kernel_rfl) ?_
                  intro a hS
                  have hb149 := (hS.cell (id := 3) (t := 3) (cs := [I n_]) (by kernel_rfl))
                  have hb150 := (hS.cell (id := 7) (t := 42) (cs := [V (.slice a136 x_135.length c137)]) (by kernel_rfl))
                  have hb151 := (hS.cell (id := 4) (t := 61) (cs := [V (.slice a1 pairs.length c1)]) (by kernel_rfl))
                  refine op1 (callCR (fi := []) (cp := [.p 3 0, .p 7 0, .p 4 0]) hS (by kernel_rfl) (by kernel_rfl) hb65 (by kernel_rfl) (by kernel_rfl) (Ret.unlendR (by kernel_rfl) (k65 _ (lend 1005 _) x_133 n_ x_135 pairs a136 c137 a1 c1 (ρ 3) 3 (ρ 7) 7 (ρ 4) 4 h138.lend (h134.m0 (M0.lend 1005)) (hb149.lend (by kernel_rfl)) (hb150.lend (by kernel_rfl)) (hb151.lend (by kernel_rfl)) ⟨by decide, by decide⟩)) ?_)
                  intro v145 a w146 χ147 hE hp hS
                  replace hO := hO.mv hE rfl rfl
                  replace h134 := h134.mv hE rfl
                  replace h138 := h138.mv hE rfl rfl
                  clear hE
                  obtain ⟨hkeep, _, hp⟩ := hp
                  obtain ⟨hp, hc152, hc153, hc154⟩ := hp
                  replace hc152 := hc152.back hb149 hkeep
                  replace hc153 := hc153.back hb150 hkeep
                  replace hc154 := hc154.back hb151 hkeep
                  clear hkeep hb149 hb150 hb151
                  obtain ⟨r148, hr⟩ : ∃ r, times_Sort_1 x_133 n_ x_135 pairs = r := ⟨_, rfl⟩
                  replace hm := hm r148 hr
                  rw [hr] at hp
                  clear hr
                  subst hp
                  replace hS := hS.addbox (id := 3) (t := 3) (cs := [I n_]) (by kernel_rfl) hc152
                  replace hS := hS.addbox (id := 7) (t := 42) (cs := [V (.slice a136 x_135.length c137)]) (by kernel_rfl) hc153
                  replace hS := hS.addbox (id := 4) (t := 61) (cs := [V (.slice a1 pairs.length c1)]) (by kernel_rfl) hc154
                  clear hc152 hc153 hc154
                  refine endP T hS (sp := []) (ks := [2, 6, 7, 8, 26, 27, 28, 29]) (bs := [3, 4, 7]) (sy' := ⟨[(2, Pt 3 0), (6, Pt 7 0), (7, .f (.func 65) [] [.p 3 0, .p 7 0, .p 4 0]), (8, I x_133), (26, .f (.func 65) [] [.p 3 0, .p 7 0, .p 4 0]), (27, I x_133), (28, B r148), (29, B r148)], [(3, (3, [I n_])), (4, (61, [V (.slice a1 pairs.length c1)])), (7, (42, [V (.slice a136 x_135.length c137)]))]⟩) (by kernel_rfl) ?_
                  intro a hS
                  exact ⟨ρ, _, r148, x_135, a136, c137, hm, hS.sel [2, 6, 7, 8, 29] [3, 4, 7] (by kernel_rfl), hO, h134, h138⟩
                · replace hS := hS.lit (t := 25) (by kernel_rfl) hb
                  replace hm := hm.2 hb
                  refine endP T hS (sp := []) (ks := [2, 6, 7, 8, 29]) (bs := [3, 4, 7]) (sy' := ⟨[(2, Pt 3 0), (6, Pt 7 0), (7, .f (.func 65) [] [.p 3 0, .p 7 0, .p 4 0]), (8, I x_133), (29, B false)], [(3, (3, [I n_])), (4, (61, [V (.slice a1 pairs.length c1)])), (7, (42, [V (.slice a136 x_135.length c137)]))]⟩) (by kernel_rfl) ?_
                  intro a hS
                  exact ⟨ρ, _, false, x_135, a136, c137, hm, hS.sel [2, 6, 7, 8, 29] [3, 4, 7] (by kernel_rfl), hO, h134, h138⟩
              · rintro a w156 ⟨ρ, χ155, x_139, x_141, a142, c143, hm, hS, hO, h140, h144⟩
                unfold VC40_J3 at hm
                refine wcond hS (b := x_139) (by kernel_rfl) (fun hb => ?_) (fun hb => ?_)
                · replace hm := hm.1 hb
                  refine wskip ?_
                  refine wblock ?_
                  refine region (endP T hS (sp := []) (ks := [2, 6, 7, 8]) (bs := [3, 4, 7]) (sy' := ⟨[(2, Pt 3 0), (6, Pt 7 0), (7, .f (.func 65) [] [.p 3 0, .p 7 0, .p 4 0]), (8, I (IntKind.i64.wrap (x_133 + 1)))], [(3, (3, [I n_])), (4, (61, [V (.slice a1 pairs.length c1)])), (7, (42, [V (.slice a142 x_141.length c143)]))]⟩) (by kernel_rfl) ?_)
                  intro a hS
                  exact ⟨⟨IntKind.i64.wrap (x_133 + 1), x_141⟩, ⟨ρ, _, a142, c143, hm.1, hS.sel [2, 6, 7, 8] [3, 4, 7] (by kernel_rfl), hO, h140, h144⟩, hm.2⟩
                · replace hm := hm.2 hb
                  refine wexit (by rfl) ?_
                  exact ⟨ρ, _, x_133, x_141, a142, c143, hm, hS.sel [2, 6, 7, 8] [3, 4, 7] (by kernel_rfl), hO, h140, h144⟩
          · rintro a w160 ⟨ρ, χ159, x_116, x_118, a119, c120, hm, hS, hO, h117, h121⟩
            unfold VC40_J2 at hm
            refine wseq ?_
            refine regP T hS (sp := []) (ks := [2, 6, 7, 8, 34]) (bs := [3, 4, 7]) (sy' := ⟨[(2, Pt 3 0), (6, Pt 7 0), (7, .f (.func 65) [] [.p 3 0, .p 7 0, .p 4 0]), (8, I x_116), (34, B (x_116 == n_))], [(3, (3, [I n_])), (4, (61, [V (.slice a1 pairs.length c1)])), (7, (42, [V (.slice a119 x_118.length c120)]))]⟩) (by kernel_rfl) ?_
            intro a hS
            refine wcond hS (b := (x_116 == n_)) (by kernel_rfl) (fun hb => ?_) (fun hb => ?_)
            · replace hm := hm.1 hb
              refine regP T hS (sp := []) (ks := [4, 5]) (bs := []) (sy' := ⟨[(4, V (.slice none 0 0)), (5, B false)], []⟩) (by kernel_rfl) ?_
              intro a hS
              refine wret ?_
              exact fin T hS hO (fun c => c) rfl (r := [.slice none 0 0, .bool false]) (by kernel_rfl) (fun χ' hM hC => ⟨([], false), hm, none, 0, rfl, RS.empty _ _ _⟩)
            · replace hm := hm.2 hb
              refine wskip ?_
              refine region ?_
              refine opsP T hS 2 (sp := []) (ks := [2, 6, 7, 35, 36]) (bs := [3, 4, 7]) (sy' := ⟨[(2, Pt 3 0), (6, Pt 7 0), (7, .f (.func 65) [] [.p 3 0, .p 7 0, .p 4 0]), (35, V (.slice a119 x_118.length c120)), (36, I x_116)], [(3, (3, [I n_])), (4, (61, [V (.slice a1 pairs.length c1)])), (7, (42, [V (.slice a119 x_118.length c120)]))]⟩) (by kernel_rfl) ?_
              intro a hS
              refine op1 (lit (E := 3) (col := 0) (T := tI) (vals := [.int .i64 x_116]) (ys := [x_116]) T hS (by kernel_rfl) (by kernel_rfl) (by kernel_rfl) (by kernel_rfl) (by exact ⟨rfl, trivial⟩) rfl (by kernel_rfl) (by kernel_rfl) (by kernel_rfl) (by kernel_rfl) ?_)
              intro b122 a w123 χ124 hE h125 hN hS
              clear hN
              replace hO := hO.mv hE rfl rfl
              replace h117 := h117.mv hE rfl
              replace h121 := h121.mv hE rfl rfl
              clear hE
              replace h125 := h125.rs0
              obtain ⟨hq, hm⟩ := hm
              obtain ⟨news, hN⟩ := h125.src
              refine op1 (append (E := 3) (T := tI) (col := 1005) (xs := x_118) T hS (by kernel_rfl) (by kernel_rfl) (by kernel_rfl) (by kernel_rfl) h121 hN (by kernel_rfl) (by kernel_rfl) (by kernel_rfl) (by kernel_rfl) hq ?_)
              intro a129 c130 a w126 χ127 hE h128 hS
              clear hq hN
              clear h121
              replace hO := hO.mv hE rfl rfl
              replace h117 := h117.mv hE rfl
              replace h125 := h125.mv hE rfl
              clear hE
              refine endM T hS (sp := []) (ks := [2, 6, 7]) (bs := [3, 4, 7]) (sy' := ⟨[(2, Pt 3 0), (6, Pt 7 0), (7, .f (.func 65) [] [.p 3 0, .p 7 0, .p 4 0])], [(3, (3, [I n_])), (4, (61, [V (.slice a1 pairs.length c1)])), (7, (42, [V (.slice a129 (x_118 ++ [x_116]).length c130)]))]⟩) (by kernel_rfl) ?_
              intro ρ a w131 χ132 hS hE hr
              replace hO := hO.mv hE rfl rfl
              replace h117 := h117.mv hE rfl
              replace h128 := h128.mv hE rfl rfl
              clear hE hr
              exact ⟨x_118 ++ [x_116], ⟨ρ, _, a129, c130, hm.1, hS.sel [2, 6, 7] [3, 4, 7] (by kernel_rfl), hO, h117, h128⟩, hm.2⟩
        · replace hm := hm.2 hb
          refine wexit (by rfl) ?_
          exact ⟨ρ, _, x_112, a113, c114, hm, hS.sel [6] [7] (by kernel_rfl), hO, h115⟩
    · rintro a w164 ⟨ρ, χ163, x_105, a106, c107, hm, hS, hO, h108⟩
      unfold VC40_J1 at hm
      refine regP T hS (sp := []) (ks := [4, 5]) (bs := []) (sy' := ⟨[(4, V (.slice a106 x_105.length c107)), (5, B true)], []⟩) (by kernel_rfl) ?_
      intro a hS
      refine wret ?_
      obtain ⟨χ109, hE, hF⟩ := h108.freeze (by decide)
      replace hS := hS.ev hE (xone_box (by kernel_rfl))
      replace hO := hO.mv hE rfl rfl
      have h110 := hF; clear hE hF
      exact fin T hS hO (fun c => c) rfl (r := [.slice a106 x_105.length c107, .bool true]) (by kernel_rfl) (fun χ' hM hC => ⟨(x_105, true), hm, a106, c107, rfl, h110.m0 hM⟩)
theorem C40 (k65 : S65) (v : ∀ (n_ : Int) (pairs : List (Int × Int)), VC40 n_ pairs (fun r => r = times_Sort n_ pairs)) : S40 := by
  intro w χ n_ pairs a1 c1   h1
  refine (W40 k65 w χ n_ pairs a1 c1   _ (v n_ pairs) h1).mono ?_
  rintro _ _ _ _ ⟨r, rfl, h⟩
  exact h
def S44 : Prop := ∀ (w : World) (χ : Nat → Nat) (l_ : List Int) (n_ : Int) (a1 : Option Addr) (c1 : Nat), RS tI w χ a1 l_ c1 → Ret Try.prog 44 #[.slice a1 l_.length c1, .int .i64 n_] xnone w χ (fun w χ' v => v = .int .i64 (ref33_Place l_ n_))
theorem hb44 : hasBody Try.prog 44 = true := by kernel_rfl
/-- replevin/replevinref33.Place -/
theorem W44 (w0 : World) (χ0 : Nat → Nat) (l_ : List Int) (n_ : Int) (a1 : Option Addr) (c1 : Nat) (Q : Int → Prop) (hm : VC44 l_ n_ Q) (h1 : RS tI w0 χ0 a1 l_ c1) :
    Ret Try.prog 44 #[.slice a1 l_.length c1, .int .i64 n_] xnone w0 χ0 (fun w χ' v => ∃ r, Q r ∧ v = .int .i64 r) := by
  unfold VC44 at hm
  replace hm := hm (h1.sm (by kernel_rfl))
  refine enter Try.func44 rfl (vals := [.slice a1 l_.length c1, .int .i64 n_]) (by kernel_rfl) ?_
  intro ρ a hS hO hM
  replace h1 := h1.m0 hM
  clear hM
  refine regP T hS (sp := []) (ks := [0, 1]) (bs := []) (sy' := ⟨[(0, V (.slice a1 l_.length c1)), (1, I n_)], []⟩) (by kernel_rfl) ?_
  intro a hS
  refine wcut (fun a w => ∃ (ρ : Nat → Nat) (χ : Nat → Nat), VC44_J1 Q ∧ St Try.f44.ntmps ⟨[], []⟩ ρ a w χ ∧ Old w0 χ0 w χ) ?_ ?_
  · refine regP T hS (sp := []) (ks := [0, 1, 5]) (bs := []) (sy' := ⟨[(0, V (.slice a1 l_.length c1)), (1, I n_), (5, I 0)], []⟩) (by kernel_rfl) ?_
    intro a hS
    refine wblock ?_
    obtain ⟨I1, μ1, hm0, hm⟩ := hm
    refine wloop (σ := Int) (fun s a w => ∃ (ρ : Nat → Nat) (χ : Nat → Nat), I1 s ∧ St Try.f44.ntmps ⟨[(0, V (.slice a1 l_.length c1)), (1, I n_), (5, I s)], []⟩ ρ a w χ ∧ Old w0 χ0 w χ ∧ RS tI w χ a1 l_ c1) (fun s => μ1 s) (0) ?_ ?_
    · exact ⟨ρ, _, hm0, hS.sel [0, 1, 5] [] (by kernel_rfl), hO, h1⟩
    · rintro i_102 a w107 ⟨ρ, χ106, hI, hS, hO, h101⟩
      replace hm := hm i_102 hI
      clear hI hm0
      refine wseq ?_
      refine regP T hS (sp := []) (ks := [0, 1, 5, 9]) (bs := []) (sy' := ⟨[(0, V (.slice a1 l_.length c1)), (1, I n_), (5, I i_102), (9, B (decide (i_102 < ((l_.length : Nat) : Int))))], []⟩) (by kernel_rfl) ?_
      intro a hS
      refine wcond hS (b := decide (i_102 < ((l_.length : Nat) : Int))) (by kernel_rfl) (fun hb => ?_) (fun hb => ?_)
      · replace hm := hm.1 hb
        refine wskip ?_
        refine wseq ?_
        refine wblock ?_
        refine regO ?_
        refine opsP T hS 2 (sp := []) (ks := [0, 1, 5, 12, 13]) (bs := []) (sy' := ⟨[(0, V (.slice a1 l_.length c1)), (1, I n_), (5, I i_102), (12, V (.slice a1 l_.length c1)), (13, I i_102)], []⟩) (by kernel_rfl) ?_
        intro a hS
        obtain ⟨hq, hm⟩ := hm
        refine op1 (index (e := 3) (k := .i64) T hS (by kernel_rfl) (by kernel_rfl) (by kernel_rfl) (by kernel_rfl) h101 (by kernel_rfl) (by kernel_rfl) hq.1 hq.2 ?_)
        intro A103 a h104 hS
        clear hq
        refine op1 (load1 T hS (by kernel_rfl) (by kernel_rfl) (by kernel_rfl) h104 rfl (by kernel_rfl) ?_)
        intro v105 a hv hS
        cases hv
        refine endP T hS (sp := []) (ks := [0, 1, 5, 17]) (bs := []) (sy' := ⟨[(0, V (.slice a1 l_.length c1)), (1, I n_), (5, I i_102), (17, B ((gi l_ i_102) == n_))], []⟩) (by kernel_rfl) ?_
        intro a hS
        refine wcond hS (b := ((gi l_ i_102) == n_)) (by kernel_rfl) (fun hb => ?_) (fun hb => ?_)
        · replace hm := hm.1 hb
          refine regP T hS (sp := []) (ks := [4]) (bs := []) (sy' := ⟨[(4, I i_102)], []⟩) (by kernel_rfl) ?_
          intro a hS
          refine wret ?_
          exact fin T hS hO (fun c => c) rfl (r := [.int .i64 i_102]) (by kernel_rfl) (fun χ' hM hC => ⟨i_102, hm, rfl⟩)
        · replace hm := hm.2 hb
          refine wskip ?_
          refine region (endP T hS (sp := []) (ks := [0, 1, 5]) (bs := []) (sy' := ⟨[(0, V (.slice a1 l_.length c1)), (1, I n_), (5, I (IntKind.i64.wrap (i_102 + 1)))], []⟩) (by kernel_rfl) ?_)
          intro a hS
          exact ⟨IntKind.i64.wrap (i_102 + 1), ⟨ρ, _, hm.1, hS.sel [0, 1, 5] [] (by kernel_rfl), hO, h101⟩, hm.2⟩
      · replace hm := hm.2 hb
        refine wexit (by rfl) ?_
        exact ⟨ρ, _, hm, hS.sel [] [] (by kernel_rfl), hO⟩
  · rintro a w109 ⟨ρ, χ108, hm, hS, hO⟩
    unfold VC44_J1 at hm
    refine regP T hS (sp := []) (ks := [4]) (bs := []) (sy' := ⟨[(4, I (-1))], []⟩) (by kernel_rfl) ?_
    intro a hS
    refine wret ?_
    exact fin T hS hO (fun c => c) rfl (r := [.int .i64 (-1)]) (by kernel_rfl) (fun χ' hM hC => ⟨(-1), hm, rfl⟩)
theorem C44 (v : ∀ (l_ : List Int) (n_ : Int), VC44 l_ n_ (fun r => r = ref33_Place l_ n_)) : S44 := by
  intro w χ l_ n_ a1 c1   h1
  refine (W44 w χ l_ n_ a1 c1   _ (v l_ n_) h1).mono ?_
  rintro _ _ _ _ ⟨r, rfl, h⟩
  exact h
def S41 : Prop := ∀ (w : World) (χ : Nat → Nat) (P : Int) (O : List (Int × Int)) (a1 : Option Addr) (c1 : Nat), RS tP2 w χ a1 O c1 → Ret Try.prog 41 #[.int .i64 P, .slice a1 O.length c1] xnone w χ (fun w χ' v => ∃ (ra1 : Option Addr) (rc1 : Nat), v = .tuple #[.slice ra1 ((ref33_Sort P O).1).length rc1, .bool ((ref33_Sort P O).2)] ∧ RS tI w χ' ra1 ((ref33_Sort P O).1) rc1)
theorem hb41 : hasBody Try.prog 41 = true := by kernel_rfl
/-- replevin/replevinref33.Sort -/
theorem W41 (k44 : S44) (w0 : World) (χ0 : Nat → Nat) (P : Int) (O : List (Int × Int)) (a1 : Option Addr) (c1 : Nat) (Q : (List Int) × Bool → Prop) (hm : VC41 P O Q) (h1 : RS tP2 w0 χ0 a1 O c1) :
    Ret Try.prog 41 #[.int .i64 P, .slice a1 O.length c1] xnone w0 χ0 (fun w χ' v => ∃ r, Q r ∧ ∃ (ra1 : Option Addr) (rc1 : Nat), v = .tuple #[.slice ra1 r.1.length rc1, .bool r.2] ∧ RS tI w χ' ra1 r.1 rc1) := by
  unfold VC41 at hm
  replace hm := hm (h1.sm (by kernel_rfl))
  refine enter Try.func41 rfl (vals := [.int .i64 P, .slice a1 O.length c1]) (by kernel_rfl) ?_
  intro ρ a hS hO hM
  replace h1 := h1.m0 hM
  clear hM
  refine regP T hS (sp := []) (ks := [0, 1]) (bs := []) (sy' := ⟨[(0, I P), (1, V (.slice a1 O.length c1))], []⟩) (by kernel_rfl) ?_
  intro a hS
  refine wseq ?_
  refine regP T hS (sp := [15]) (ks := [0, 1, 18]) (bs := []) (sy' := ⟨[(0, I P), (1, V (.slice a1 O.length c1)), (18, B ((decide (P < 0)) || (decide (P > 64))))], []⟩) (by kernel_rfl) ?_
  intro a hS
  refine wcond hS (b := ((decide (P < 0)) || (decide (P > 64)))) (by kernel_rfl) (fun hb => ?_) (fun hb => ?_)
  · replace hm := hm.1 hb
    refine regP T hS (sp := []) (ks := [4, 5]) (bs := []) (sy' := ⟨[(4, V (.slice none 0 0)), (5, B false)], []⟩) (by kernel_rfl) ?_
    intro a hS
    refine wret ?_
    exact fin T hS hO (fun c => c) rfl (r := [.slice none 0 0, .bool false]) (by kernel_rfl) (fun χ' hM hC => ⟨([], false), hm, none, 0, rfl, RS.empty _ _ _⟩)
  · replace hm := hm.2 hb
    refine wskip ?_
    refine regP T hS (sp := []) (ks := [0, 1, 6]) (bs := []) (sy' := ⟨[(0, I P), (1, V (.slice a1 O.length c1)), (6, V (.slice none 0 0))], []⟩) (by kernel_rfl) ?_
    intro a hS
    refine wcut (fun a w => ∃ (ρ : Nat → Nat) (χ : Nat → Nat) (o_101 : List Int) (a102 : Option Addr) (c103 : Nat), VC41_J1 Q o_101 ∧ St Try.f41.ntmps ⟨[(6, V (.slice a102 o_101.length c103))], []⟩ ρ a w χ ∧ Old w0 χ0 w χ ∧ OS tI 3 w χ 1005 a102 o_101 c103) ?_ ?_
    · refine regP T hS (sp := []) (ks := [0, 1, 6, 7]) (bs := []) (sy' := ⟨[(0, I P), (1, V (.slice a1 O.length c1)), (6, V (.slice none 0 0)), (7, I 0)], []⟩) (by kernel_rfl) ?_
      intro a hS
      refine wblock ?_
      obtain ⟨I1, μ1, hm0, hm⟩ := hm
      refine wloop (σ := (List Int) × Int) (fun s a w => ∃ (ρ : Nat → Nat) (χ : Nat → Nat) (a109 : Option Addr) (c110 : Nat), I1 s.1 s.2 ∧ St Try.f41.ntmps ⟨[(0, I P), (1, V (.slice a1 O.length c1)), (6, V (.slice a109 s.1.length c110)), (7, I s.2)], []⟩ ρ a w χ ∧ Old w0 χ0 w χ ∧ RS tP2 w χ a1 O c1 ∧ OS tI 3 w χ 1005 a109 s.1 c110) (fun s => μ1 s.1 s.2) (⟨[], 0⟩) ?_ ?_
      · exact ⟨ρ, _, none, 0, hm0, hS.sel [0, 1, 6, 7] [] (by kernel_rfl), hO, h1, (OS.nil _ _ _ _ _)⟩
      · rintro ⟨o_108, A_112⟩ a w194 ⟨ρ, χ193, a109, c110, hI, hS, hO, h107, h111⟩
        replace hm := hm o_108 A_112 hI
        clear hI hm0
        refine wseq ?_
        refine regP T hS (sp := []) (ks := [0, 1, 6, 7, 21]) (bs := []) (sy' := ⟨[(0, I P), (1, V (.slice a1 O.length c1)), (6, V (.slice a109 o_108.length c110)), (7, I A_112), (21, B (decide (A_112 < P)))], []⟩) (by kernel_rfl) ?_
        intro a hS
        refine wcond hS (b := decide (A_112 < P)) (by kernel_rfl) (fun hb => ?_) (fun hb => ?_)
        · replace hm := hm.1 hb
          refine wskip ?_
          refine wseq ?_
          refine wblock ?_
          refine regP T hS (sp := []) (ks := [0, 1, 6, 7, 8]) (bs := []) (sy' := ⟨[(0, I P), (1, V (.slice a1 O.length c1)), (6, V (.slice a109 o_108.length c110)), (7, I A_112), (8, I (-1))], []⟩) (by kernel_rfl) ?_
          intro a hS
          refine wcut (fun a w => ∃ (ρ : Nat → Nat) (χ : Nat → Nat) (o_114 : List Int) (r_118 : Int) (a115 : Option Addr) (c116 : Nat), VC41_J2 Q I1 μ1 o_108 A_112 o_114 r_118 ∧ St Try.f41.ntmps ⟨[(0, I P), (1, V (.slice a1 O.length c1)), (6, V (.slice a115 o_114.length c116)), (7, I A_112), (8, I r_118)], []⟩ ρ a w χ ∧ Old w0 χ0 w χ ∧ RS tP2 w χ a1 O c1 ∧ OS tI 3 w χ 1005 a115 o_114 c116) ?_ ?_
          · refine regP T hS (sp := []) (ks := [0, 1, 6, 7, 8, 9]) (bs := []) (sy' := ⟨[(0, I P), (1, V (.slice a1 O.length c1)), (6, V (.slice a109 o_108.length c110)), (7, I A_112), (8, I (-1)), (9, I (IntKind.i64.wrap (P - 1)))], []⟩) (by kernel_rfl) ?_
            intro a hS
            refine wblock ?_
            obtain ⟨I2, μ2, hm0, hm⟩ := hm
            refine wloop (σ := (List Int) × Int × Int) (fun s a w => ∃ (ρ : Nat → Nat) (χ : Nat → Nat) (a130 : Option Addr) (c131 : Nat), I2 s.1 s.2.1 s.2.2 ∧ St Try.f41.ntmps ⟨[(0, I P), (1, V (.slice a1 O.length c1)), (6, V (.slice a130 s.1.length c131)), (7, I A_112), (8, I s.2.1), (9, I s.2.2)], []⟩ ρ a w χ ∧ Old w0 χ0 w χ ∧ RS tP2 w χ a1 O c1 ∧ OS tI 3 w χ 1005 a130 s.1 c131) (fun s => μ2 s.1 s.2.1 s.2.2) (⟨o_108, (-1), IntKind.i64.wrap (P - 1)⟩) ?_ ?_
            · exact ⟨ρ, _, a109, c110, hm0, hS.sel [0, 1, 6, 7, 8, 9] [] (by kernel_rfl), hO, h107, h111⟩
            · rintro ⟨o_129, r_133, r_134⟩ a w190 ⟨ρ, χ189, a130, c131, hI, hS, hO, h128, h132⟩
              replace hm := hm o_129 r_133 r_134 hI
              clear hI hm0
              refine wseq ?_
              refine regP T hS (sp := []) (ks := [0, 1, 6, 7, 8, 9, 27]) (bs := []) (sy' := ⟨[(0, I P), (1, V (.slice a1 O.length c1)), (6, V (.slice a130 o_129.length c131)), (7, I A_112), (8, I r_133), (9, I r_134), (27, B (decide (r_134 ≥ 0)))], []⟩) (by kernel_rfl) ?_
              intro a hS
              refine wcond hS (b := decide (r_134 ≥ 0)) (by kernel_rfl) (fun hb => ?_) (fun hb => ?_)
              · replace hm := hm.1 hb
                refine wskip ?_
                refine wcut (fun a w => ∃ (ρ : Nat → Nat) (χ : Nat → Nat) (o_136 : List Int) (r_140 : Int) (a137 : Option Addr) (c138 : Nat), VC41_J3 I2 μ2 o_129 r_133 r_134 o_136 r_140 ∧ St Try.f41.ntmps ⟨[(0, I P), (1, V (.slice a1 O.length c1)), (6, V (.slice a137 o_136.length c138)), (7, I A_112), (8, I r_140), (9, I r_134)], []⟩ ρ a w χ ∧ Old w0 χ0 w χ ∧ RS tP2 w χ a1 O c1 ∧ OS tI 3 w χ 1005 a137 o_136 c138) ?_ ?_
                · refine wblock ?_
                  refine regO ?_
                  refine opsP T hS 2 (sp := []) (ks := [0, 1, 6, 7, 8, 9, 30, 31]) (bs := []) (sy' := ⟨[(0, I P), (1, V (.slice a1 O.length c1)), (6, V (.slice a130 o_129.length c131)), (7, I A_112), (8, I r_133), (9, I r_134), (30, V (.slice a130 o_129.length c131)), (31, I r_134)], []⟩) (by kernel_rfl) ?_
                  intro a hS
                  refine op1 (call hS (by kernel_rfl) (by kernel_rfl) hb44 (by kernel_rfl) (fun _ _ => rfl) (Ret.unlend (k44 _ (lend 1005 _) o_129 r_134 a130 c131 h132.lend)) ?_)
                  intro v141 a w142 χ143 hE hp hS
                  replace hO := hO.mv hE rfl rfl
                  replace h128 := h128.mv hE rfl
                  replace h132 := h132.mv hE rfl rfl
                  clear hE
                  obtain ⟨_, hp⟩ := hp
                  obtain ⟨r144, hr⟩ : ∃ r, ref33_Place o_129 r_134 = r := ⟨_, rfl⟩
                  replace hm := hm r144 hr
                  rw [hr] at hp
                  clear hr
                  subst hp
                  refine endP T hS (sp := []) (ks := [0, 1, 6, 7, 8, 9, 10]) (bs := []) (sy' := ⟨[(0, I P), (1, V (.slice a1 O.length c1)), (6, V (.slice a130 o_129.length c131)), (7, I A_112), (8, I r_133), (9, I r_134), (10, B (decide (r144 < 0)))], []⟩) (by kernel_rfl) ?_
                  intro a hS
                  refine wcut (fun a w => ∃ (ρ : Nat → Nat) (χ : Nat → Nat) (o_146 : List Int) (a_150 : Bool) (a147 : Option Addr) (c148 : Nat), VC41_J4 I2 μ2 o_129 r_133 r_134 o_146 a_150 ∧ St Try.f41.ntmps ⟨[(0, I P), (1, V (.slice a1 O.length c1)), (6, V (.slice a147 o_146.length c148)), (7, I A_112), (8, I r_133), (9, I r_134), (10, B a_150)], []⟩ ρ a w χ ∧ Old w0 χ0 w χ ∧ RS tP2 w χ a1 O c1 ∧ OS tI 3 w χ 1005 a147 o_146 c148) ?_ ?_
                  · refine regP T hS (sp := []) (ks := [0, 1, 6, 7, 8, 9, 10, 11]) (bs := []) (sy' := ⟨[(0, I P), (1, V (.slice a1 O.length c1)), (6, V (.slice a130 o_129.length c131)), (7, I A_112), (8, I r_133), (9, I r_134), (10, B (decide (r144 < 0))), (11, I 0)], []⟩) (by kernel_rfl) ?_
                    intro a hS
                    refine wblock ?_
                    obtain ⟨I3, μ3, hm0, hm⟩ := hm
                    refine wloop (σ := (List Int) × Bool × Int) (fun s a w => ∃ (ρ : Nat → Nat) (χ : Nat → Nat) (a153 : Option Addr) (c154 : Nat), I3 s.1 s.2.1 s.2.2 ∧ St Try.f41.ntmps ⟨[(0, I P), (1, V (.slice a1 O.length c1)), (6, V (.slice a153 s.1.length c154)), (7, I A_112), (8, I r_133), (9, I r_134), (10, B s.2.1), (11, I s.2.2)], []⟩ ρ a w χ ∧ Old w0 χ0 w χ ∧ RS tP2 w χ a1 O c1 ∧ OS tI 3 w χ 1005 a153 s.1 c154) (fun s => μ3 s.1 s.2.1 s.2.2) (⟨o_129, decide (r144 < 0), 0⟩) ?_ ?_
                    · exact ⟨ρ, _, a130, c131, hm0, hS.sel [0, 1, 6, 7, 8, 9, 10, 11] [] (by kernel_rfl), hO, h128, h132⟩
                    · rintro ⟨o_152, a_156, y_157⟩ a w184 ⟨ρ, χ183, a153, c154, hI, hS, hO, h151, h155⟩
                      replace hm := hm o_152 a_156 y_157 hI
                      clear hI hm0
                      refine wseq ?_
                      refine regP T hS (sp := []) (ks := [0, 1, 6, 7, 8, 9, 10, 11, 37]) (bs := []) (sy' := ⟨[(0, I P), (1, V (.slice a1 O.length c1)), (6, V (.slice a153 o_152.length c154)), (7, I A_112), (8, I r_133), (9, I r_134), (10, B a_156), (11, I y_157), (37, B (decide (y_157 < ((O.length : Nat) : Int))))], []⟩) (by kernel_rfl) ?_
                      intro a hS
                      refine wcond hS (b := decide (y_157 < ((O.length : Nat) : Int))) (by kernel_rfl) (fun hb => ?_) (fun hb => ?_)
                      · replace hm := hm.1 hb
                        refine wskip ?_
                        refine wcut (fun a w => ∃ (ρ : Nat → Nat) (χ : Nat → Nat) (o_159 : List Int) (a_163 : Bool) (a160 : Option Addr) (c161 : Nat), VC41_J5 I3 μ3 o_152 a_156 y_157 o_159 a_163 ∧ St Try.f41.ntmps ⟨[(0, I P), (1, V (.slice a1 O.length c1)), (6, V (.slice a160 o_159.length c161)), (7, I A_112), (8, I r_133), (9, I r_134), (10, B a_163), (11, I y_157)], []⟩ ρ a w χ ∧ Old w0 χ0 w χ ∧ RS tP2 w χ a1 O c1 ∧ OS tI 3 w χ 1005 a160 o_159 c161) ?_ ?_
                        · refine wblock ?_
                          refine regO ?_
                          refine opsP T hS 2 (sp := []) (ks := [0, 1, 6, 7, 8, 9, 10, 11, 40, 41]) (bs := []) (sy' := ⟨[(0, I P), (1, V (.slice a1 O.length c1)), (6, V (.slice a153 o_152.length c154)), (7, I A_112), (8, I r_133), (9, I r_134), (10, B a_156), (11, I y_157), (40, V (.slice a1 O.length c1)), (41, I y_157)], []⟩) (by kernel_rfl) ?_
                          intro a hS
                          obtain ⟨hq, hm⟩ := hm
                          refine op1 (index (e := 68) (k := .i64) T hS (by kernel_rfl) (by kernel_rfl) (by kernel_rfl) (by kernel_rfl) h151 (by kernel_rfl) (by kernel_rfl) hq.1 hq.2 ?_)
                          intro A164 a h165 hS
                          clear hq
                          refine op1 (loadA T hS (by kernel_rfl) (by kernel_rfl) (by kernel_rfl) h165 (by kernel_rfl) (by kernel_rfl) ?_)
                          intro v166 a hv hS
                          subst hv
                          refine endM T hS (sp := []) (ks := [0, 1, 6, 7, 8, 9, 10, 11, 12]) (bs := [13]) (sy' := ⟨[(0, I P), (1, V (.slice a1 O.length c1)), (6, V (.slice a153 o_152.length c154)), (7, I A_112), (8, I r_133), (9, I r_134), (10, B a_156), (11, I y_157), (12, Pt 13 0)], [(13, (68, [I ((gi O y_157).1), I ((gi O y_157).2)]))]⟩) (by kernel_rfl) ?_
                          intro ρ a w179 χ180 hS hE hr
                          replace hO := hO.mv hE rfl rfl
                          replace h151 := h151.mv hE rfl
                          replace h155 := h155.mv hE rfl rfl
                          clear hE hr
                          refine wcut (fun a w => ∃ (ρ : Nat → Nat) (χ : Nat → Nat) (o_168 : List Int) (x_172 : Bool) (a169 : Option Addr) (c170 : Nat), VC41_J6 I3 μ3 o_152 a_156 y_157 o_168 x_172 ∧ St Try.f41.ntmps ⟨[(0, I P), (1, V (.slice a1 O.length c1)), (6, V (.slice a169 o_168.length c170)), (7, I A_112), (8, I r_133), (9, I r_134), (10, B a_156), (11, I y_157), (71, B x_172)], []⟩ ρ a w χ ∧ Old w0 χ0 w χ ∧ RS tP2 w χ a1 O c1 ∧ OS tI 3 w χ 1005 a169 o_168 c170) ?_ ?_
                          · refine region ?_
                            refine opsP T hS 22 (sp := [48, 54, 59]) (ks := [0, 1, 6, 7, 8, 9, 10, 11, 12, 65]) (bs := [13]) (sy' := ⟨[(0, I P), (1, V (.slice a1 O.length c1)), (6, V (.slice a153 o_152.length c154)), (7, I A_112), (8, I r_133), (9, I r_134), (10, B a_156), (11, I y_157), (12, Pt 13 0), (65, B ((((((gi O y_157).2) == r_134) && (((gi O y_157).1) != r_134)) && (decide (((gi O y_157).1) ≥ 0))) && (decide (((gi O y_157).1) < P))))], [(13, (68, [I ((gi O y_157).1), I ((gi O y_157).2)]))]⟩) (by kernel_rfl) ?_
                            intro a hS
                            rcases Bool.eq_false_or_eq_true ((((((gi O y_157).2) == r_134) && (((gi O y_157).1) != r_134)) && (decide (((gi O y_157).1) ≥ 0))) && (decide (((gi O y_157).1) < P))) with hb | hb
                            · replace hS := hS.lit (t := 65) (by kernel_rfl) hb
                              replace hm := hm.1 hb
                              refine opsP T hS 3 (sp := []) (ks := [0, 1, 6, 7, 8, 9, 10, 11, 65, 66, 67, 68]) (bs := [13]) (sy' := ⟨[(0, I P), (1, V (.slice a1 O.length c1)), (6, V (.slice a153 o_152.length c154)), (7, I A_112), (8, I r_133), (9, I r_134), (10, B a_156), (11, I y_157), (65, B true), (66, V (.slice a153 o_152.length c154)), (67, Pt 13 0), (68, I ((gi O y_157).1))], [(13, (68, [I ((gi O y_157).1), I ((gi O y_157).2)]))]⟩) (by kernel_rfl) ?_
                              intro a hS
                              refine op1 (call hS (by kernel_rfl) (by kernel_rfl) hb44 (by kernel_rfl) (fun _ _ => rfl) (Ret.unlend (k44 _ (lend 1005 _) o_152 ((gi O y_157).1) a153 c154 h155.lend)) ?_)
                              intro v173 a w174 χ175 hE hp hS
                              replace hO := hO.mv hE rfl rfl
                              replace h151 := h151.mv hE rfl
                              replace h155 := h155.mv hE rfl rfl
                              clear hE
                              obtain ⟨_, hp⟩ := hp
                              obtain ⟨r176, hr⟩ : ∃ r, ref33_Place o_152 ((gi O y_157).1) = r := ⟨_, rfl⟩
                              replace hm := hm r176 hr
                              rw [hr] at hp
                              clear hr
                              subst hp
                              refine endP T hS (sp := []) (ks := [0, 1, 6, 7, 8, 9, 10, 11, 66, 67, 68, 69, 70, 71]) (bs := [13]) (sy' := ⟨[(0, I P), (1, V (.slice a1 O.length c1)), (6, V (.slice a153 o_152.length c154)), (7, I A_112), (8, I r_133), (9, I r_134), (10, B a_156), (11, I y_157), (66, V (.slice a153 o_152.length c154)), (67, Pt 13 0), (68, I ((gi O y_157).1)), (69, I r176), (70, B (decide (r176 < 0))), (71, B (decide (r176 < 0)))], [(13, (68, [I ((gi O y_157).1), I ((gi O y_157).2)]))]⟩) (by kernel_rfl) ?_
                              intro a hS
                              exact ⟨ρ, _, o_152, decide (r176 < 0), a153, c154, hm, hS.sel [0, 1, 6, 7, 8, 9, 10, 11, 71] [] (by kernel_rfl), hO, h151, h155⟩
                            · replace hS := hS.lit (t := 65) (by kernel_rfl) hb
                              replace hm := hm.2 hb
                              refine endP T hS (sp := []) (ks := [0, 1, 6, 7, 8, 9, 10, 11, 71]) (bs := []) (sy' := ⟨[(0, I P), (1, V (.slice a1 O.length c1)), (6, V (.slice a153 o_152.length c154)), (7, I A_112), (8, I r_133), (9, I r_134), (10, B a_156), (11, I y_157), (71, B false)], []⟩) (by kernel_rfl) ?_
                              intro a hS
                              exact ⟨ρ, _, o_152, false, a153, c154, hm, hS.sel [0, 1, 6, 7, 8, 9, 10, 11, 71] [] (by kernel_rfl), hO, h151, h155⟩
                          · rintro a w178 ⟨ρ, χ177, o_168, x_172, a169, c170, hm, hS, hO, h167, h171⟩
                            unfold VC41_J6 at hm
                            refine wcond hS (b := x_172) (by kernel_rfl) (fun hb => ?_) (fun hb => ?_)
                            · replace hm := hm.1 hb
                              refine region (endP T hS (sp := []) (ks := [0, 1, 6, 7, 8, 9, 10, 11]) (bs := []) (sy' := ⟨[(0, I P), (1, V (.slice a1 O.length c1)), (6, V (.slice a169 o_168.length c170)), (7, I A_112), (8, I r_133), (9, I r_134), (10, B false), (11, I y_157)], []⟩) (by kernel_rfl) ?_)
                              intro a hS
                              exact ⟨ρ, _, o_168, false, a169, c170, hm, hS.sel [0, 1, 6, 7, 8, 9, 10, 11] [] (by kernel_rfl), hO, h167, h171⟩
                            · replace hm := hm.2 hb
                              refine wskip ?_
                              exact ⟨ρ, _, o_168, a_156, a169, c170, hm, hS.sel [0, 1, 6, 7, 8, 9, 10, 11] [] (by kernel_rfl), hO, h167, h171⟩
                        · rintro a w182 ⟨ρ, χ181, o_159, a_163, a160, c161, hm, hS, hO, h158, h162⟩
                          unfold VC41_J5 at hm
                          refine region (endP T hS (sp := []) (ks := [0, 1, 6, 7, 8, 9, 10, 11]) (bs := []) (sy' := ⟨[(0, I P), (1, V (.slice a1 O.length c1)), (6, V (.slice a160 o_159.length c161)), (7, I A_112), (8, I r_133), (9, I r_134), (10, B a_163), (11, I (IntKind.i64.wrap (y_157 + 1)))], []⟩) (by kernel_rfl) ?_)
                          intro a hS
                          exact ⟨⟨o_159, a_163, IntKind.i64.wrap (y_157 + 1)⟩, ⟨ρ, _, a160, c161, hm.1, hS.sel [0, 1, 6, 7, 8, 9, 10, 11] [] (by kernel_rfl), hO, h158, h162⟩, hm.2⟩
                      · replace hm := hm.2 hb
                        refine wexit (by rfl) ?_
                        exact ⟨ρ, _, o_152, a_156, a153, c154, hm, hS.sel [0, 1, 6, 7, 8, 9, 10] [] (by kernel_rfl), hO, h151, h155⟩
                  · rintro a w186 ⟨ρ, χ185, o_146, a_150, a147, c148, hm, hS, hO, h145, h149⟩
                    unfold VC41_J4 at hm
                    refine regP T hS (sp := []) (ks := [0, 1, 6, 7, 8, 9, 72]) (bs := []) (sy' := ⟨[(0, I P), (1, V (.slice a1 O.length c1)), (6, V (.slice a147 o_146.length c148)), (7, I A_112), (8, I r_133), (9, I r_134), (72, B a_150)], []⟩) (by kernel_rfl) ?_
                    intro a hS
                    refine wcond hS (b := a_150) (by kernel_rfl) (fun hb => ?_) (fun hb => ?_)
                    · replace hm := hm.1 hb
                      refine region (endP T hS (sp := []) (ks := [0, 1, 6, 7, 8, 9]) (bs := []) (sy' := ⟨[(0, I P), (1, V (.slice a1 O.length c1)), (6, V (.slice a147 o_146.length c148)), (7, I A_112), (8, I r_134), (9, I r_134)], []⟩) (by kernel_rfl) ?_)
                      intro a hS
                      exact ⟨ρ, _, o_146, r_134, a147, c148, hm, hS.sel [0, 1, 6, 7, 8, 9] [] (by kernel_rfl), hO, h145, h149⟩
                    · replace hm := hm.2 hb
                      refine wskip ?_
                      exact ⟨ρ, _, o_146, r_133, a147, c148, hm, hS.sel [0, 1, 6, 7, 8, 9] [] (by kernel_rfl), hO, h145, h149⟩
                · rintro a w188 ⟨ρ, χ187, o_136, r_140, a137, c138, hm, hS, hO, h135, h139⟩
                  unfold VC41_J3 at hm
                  refine region (endP T hS (sp := []) (ks := [0, 1, 6, 7, 8, 9]) (bs := []) (sy' := ⟨[(0, I P), (1, V (.slice a1 O.length c1)), (6, V (.slice a137 o_136.length c138)), (7, I A_112), (8, I r_140), (9, I (IntKind.i64.wrap (r_134 - 1)))], []⟩) (by kernel_rfl) ?_)
                  intro a hS
                  exact ⟨⟨o_136, r_140, IntKind.i64.wrap (r_134 - 1)⟩, ⟨ρ, _, a137, c138, hm.1, hS.sel [0, 1, 6, 7, 8, 9] [] (by kernel_rfl), hO, h135, h139⟩, hm.2⟩
              · replace hm := hm.2 hb
                refine wexit (by rfl) ?_
                exact ⟨ρ, _, o_129, r_133, a130, c131, hm, hS.sel [0, 1, 6, 7, 8] [] (by kernel_rfl), hO, h128, h132⟩
          · rintro a w192 ⟨ρ, χ191, o_114, r_118, a115, c116, hm, hS, hO, h113, h117⟩
            unfold VC41_J2 at hm
            refine wseq ?_
            refine regP T hS (sp := []) (ks := [0, 1, 6, 7, 8, 75]) (bs := []) (sy' := ⟨[(0, I P), (1, V (.slice a1 O.length c1)), (6, V (.slice a115 o_114.length c116)), (7, I A_112), (8, I r_118), (75, B (decide (r_118 < 0)))], []⟩) (by kernel_rfl) ?_
            intro a hS
            refine wcond hS (b := decide (r_118 < 0)) (by kernel_rfl) (fun hb => ?_) (fun hb => ?_)
            · replace hm := hm.1 hb
              refine regP T hS (sp := []) (ks := [4, 5]) (bs := []) (sy' := ⟨[(4, V (.slice none 0 0)), (5, B false)], []⟩) (by kernel_rfl) ?_
              intro a hS
              refine wret ?_
              exact fin T hS hO (fun c => c) rfl (r := [.slice none 0 0, .bool false]) (by kernel_rfl) (fun χ' hM hC => ⟨([], false), hm, none, 0, rfl, RS.empty _ _ _⟩)
            · replace hm := hm.2 hb
              refine wskip ?_
              refine region ?_
              refine opsP T hS 2 (sp := []) (ks := [0, 1, 6, 7, 76, 77]) (bs := []) (sy' := ⟨[(0, I P), (1, V (.slice a1 O.length c1)), (6, V (.slice a115 o_114.length c116)), (7, I A_112), (76, V (.slice a115 o_114.length c116)), (77, I r_118)], []⟩) (by kernel_rfl) ?_
              intro a hS
              refine op1 (lit (E := 3) (col := 0) (T := tI) (vals := [.int .i64 r_118]) (ys := [r_118]) T hS (by kernel_rfl) (by kernel_rfl) (by kernel_rfl) (by kernel_rfl) (by exact ⟨rfl, trivial⟩) rfl (by kernel_rfl) (by kernel_rfl) (by kernel_rfl) (by kernel_rfl) ?_)
              intro b119 a w120 χ121 hE h122 hN hS
              clear hN
              replace hO := hO.mv hE rfl rfl
              replace h113 := h113.mv hE rfl
              replace h117 := h117.mv hE rfl rfl
              clear hE
              replace h122 := h122.rs0
              obtain ⟨hq, hm⟩ := hm
              obtain ⟨news, hN⟩ := h122.src
              refine op1 (append (E := 3) (T := tI) (col := 1005) (xs := o_114) T hS (by kernel_rfl) (by kernel_rfl) (by kernel_rfl) (by kernel_rfl) h117 hN (by kernel_rfl) (by kernel_rfl) (by kernel_rfl) (by kernel_rfl) hq ?_)
              intro a126 c127 a w123 χ124 hE h125 hS
              clear hq hN
              clear h117
              replace hO := hO.mv hE rfl rfl
              replace h113 := h113.mv hE rfl
              replace h122 := h122.mv hE rfl
              clear hE
              refine endP T hS (sp := []) (ks := [0, 1, 6, 7]) (bs := []) (sy' := ⟨[(0, I P), (1, V (.slice a1 O.length c1)), (6, V (.slice a126 (o_114 ++ [r_118]).length c127)), (7, I A_112)], []⟩) (by kernel_rfl) ?_
              intro a hS
              refine region (endP T hS (sp := []) (ks := [0, 1, 6, 7]) (bs := []) (sy' := ⟨[(0, I P), (1, V (.slice a1 O.length c1)), (6, V (.slice a126 (o_114 ++ [r_118]).length c127)), (7, I (IntKind.i64.wrap (A_112 + 1)))], []⟩) (by kernel_rfl) ?_)
              intro a hS
              exact ⟨⟨o_114 ++ [r_118], IntKind.i64.wrap (A_112 + 1)⟩, ⟨ρ, _, a126, c127, hm.1, hS.sel [0, 1, 6, 7] [] (by kernel_rfl), hO, h113, h125⟩, hm.2⟩
        · replace hm := hm.2 hb
          refine wexit (by rfl) ?_
          exact ⟨ρ, _, o_108, a109, c110, hm, hS.sel [6] [] (by kernel_rfl), hO, h111⟩
    · rintro a w196 ⟨ρ, χ195, o_101, a102, c103, hm, hS, hO, h104⟩
      unfold VC41_J1 at hm
      refine regP T hS (sp := []) (ks := [4, 5]) (bs := []) (sy' := ⟨[(4, V (.slice a102 o_101.length c103)), (5, B true)], []⟩) (by kernel_rfl) ?_
      intro a hS
      refine wret ?_
      obtain ⟨χ105, hE, hF⟩ := h104.freeze (by decide)
      replace hS := hS.ev hE (xone_box (by kernel_rfl))
      replace hO := hO.mv hE rfl rfl
      have h106 := hF; clear hE hF
      exact fin T hS hO (fun c => c) rfl (r := [.slice a102 o_101.length c103, .bool true]) (by kernel_rfl) (fun χ' hM hC => ⟨(o_101, true), hm, a102, c103, rfl, h106.m0 hM⟩)
theorem C41 (k44 : S44) (v : ∀ (P : Int) (O : List (Int × Int)), VC41 P O (fun r => r = ref33_Sort P O)) : S41 := by
  intro w χ P O a1 c1   h1
  refine (W41 k44 w χ P O a1 c1   _ (v P O) h1).mono ?_
  rintro _ _ _ _ ⟨r, rfl, h⟩
  exact h
def S63 : Prop := ∀ (w : World) (χ : Nat → Nat) (x_ : Int) (cap1 : List Int) (a1 : Option Addr) (c1 : Nat) (b1 : Nat) (i1 : Nat), RS tI w χ a1 cap1 c1 → Cell w χ b1 i1 42 [.slice a1 cap1.length c1] → Apart [i1] → Ret Try.prog 63 #[.int .i64 x_, .pointer (some ⟨b1, 0, none⟩)] (pR [i1]) w χ (fun w χ' v => v = .int .i64 (times_Against_1 x_ cap1) ∧ Cell w χ' b1 i1 42 [.slice a1 cap1.length c1])
theorem hb63 : hasBody Try.prog 63 = true := by kernel_rfl
/-- replevin/times.Against$1 -/
theorem W63 (k64 : S64) (w0 : World) (χ0 : Nat → Nat) (x_ : Int) (cap1 : List Int) (a1 : Option Addr) (c1 : Nat) (b1 : Nat) (i1 : Nat) (Q : Int → Prop) (hm : VC63 x_ cap1 Q) (h1 : RS tI w0 χ0 a1 cap1 c1) (hc1 : Cell w0 χ0 b1 i1 42 [.slice a1 cap1.length c1]) (hA : Apart [i1]) :
    Ret Try.prog 63 #[.int .i64 x_, .pointer (some ⟨b1, 0, none⟩)] (pR [i1]) w0 χ0 (fun w χ' v => ∃ r, Q r ∧ v = .int .i64 r ∧ Cell w χ' b1 i1 42 [.slice a1 cap1.length c1]) := by
  unfold VC63 at hm
  replace hm := hm (h1.sm (by kernel_rfl))
  refine enterR Try.func63 rfl (f0of [(i1, 901)]) (fun id => (bif Nat.beq id 901 then b1 else 0)) (args := [I x_, Pt 901 0]) (bxs := [(901, (42, [V (.slice a1 cap1.length c1)]))]) (by kernel_rfl) rfl (BoxesOK.cons (by kernel_rfl) (hc1.map (f0of_at 0 hA.1 rfl)) BoxesOK.nil) (f0of_0 (fun q hq => (hA.2 q.1 (List.mem_map.2 ⟨q, hq, rfl⟩)).1)) ?_
  intro a hS hO hM
  have hP : Pin [(901, b1)] (fun id => (bif Nat.beq id 901 then b1 else 0)) := by intro q hq; simp at hq; rcases hq with rfl <;> rfl
  generalize (fun id => (bif Nat.beq id 901 then b1 else 0)) = ρ at hS hP
  clear hc1
  replace h1 := h1.m0 hM
  clear hM
  refine regP T hS (sp := []) (ks := [0, 1]) (bs := [901]) (sy' := ⟨[(0, I x_), (1, Pt 901 0)], [(901, (42, [V (.slice a1 cap1.length c1)]))]⟩) (by kernel_rfl) ?_
  intro a hS
  refine regO ?_
  refine opsP T hS 2 (sp := []) (ks := [4, 5]) (bs := [901]) (sy' := ⟨[(4, V (.slice a1 cap1.length c1)), (5, I x_)], [(901, (42, [V (.slice a1 cap1.length c1)]))]⟩) (by kernel_rfl) ?_
  intro a hS
  refine op1 (call hS (by kernel_rfl) (by kernel_rfl) hb64 (by kernel_rfl) (fun _ _ => rfl) (k64 _ _ cap1 x_ a1 c1 h1) ?_)
  intro v101 a w102 χ103 hE hp hS
  replace hO := hO.mv hE rfl rfl
  replace h1 := h1.mv hE rfl
  clear hE
  obtain ⟨r104, hr⟩ : ∃ r, slices_Index_int_int cap1 x_ = r := ⟨_, rfl⟩
  replace hm := hm r104 hr
  rw [hr] at hp
  clear hr
  subst hp
  refine endP T hS (sp := []) (ks := [3]) (bs := [901]) (sy' := ⟨[(3, I r104)], [(901, (42, [V (.slice a1 cap1.length c1)]))]⟩) (by kernel_rfl) ?_
  intro a hS
  refine wret ?_
  exact finR T hS hO (fun c h => f0of_zero (by kernel_rfl) h) (fun c h => f0of_else (l := [(i1, 901)]) h) (f1of [(i1, 901)]) rfl (r := [.int .i64 r104]) (by kernel_rfl) (fun χ' hM hC => ⟨r104, hm, rfl, ((hS.cell (id := 901) (t := 42) (cs := [V (.slice a1 cap1.length c1)]) (by kernel_rfl)).out (f := (f1of [(i1, 901)])) hC (by kernel_rfl) (by kernel_rfl) (hP.at 0 rfl))⟩)
theorem C63 (k64 : S64) (v : ∀ (x_ : Int) (cap1 : List Int), VC63 x_ cap1 (fun r => r = times_Against_1 x_ cap1)) : S63 := by
  intro w χ x_ cap1 a1 c1  b1 i1 h1 hc1 hA
  refine (W63 k64 w χ x_ cap1 a1 c1  b1 i1 _ (v x_ cap1) h1 hc1 hA).mono ?_
  rintro _ _ _ _ ⟨r, rfl, h⟩
  exact h
def S38 : Prop := ∀ (w : World) (χ : Nat → Nat) (order : List Int) (pairs : List (Int × Int)) (a1 : Option Addr) (c1 : Nat) (a2 : Option Addr) (c2 : Nat), RS tI w χ a1 order c1 → RS tP2 w χ a2 pairs c2 → Ret Try.prog 38 #[.slice a1 order.length c1, .slice a2 pairs.length c2] xnone w χ (fun w χ' v => v = .tuple #[.int .i64 ((times_Against order pairs).1), .bool ((times_Against order pairs).2)])
theorem hb38 : hasBody Try.prog 38 = true := by kernel_rfl
/-- replevin/times.Against -/
theorem W38 (k63 : S63) (w0 : World) (χ0 : Nat → Nat) (order : List Int) (pairs : List (Int × Int)) (a1 : Option Addr) (c1 : Nat) (a2 : Option Addr) (c2 : Nat) (Q : Int × Bool → Prop) (hm : VC38 order pairs Q) (h1 : RS tI w0 χ0 a1 order c1) (h2 : RS tP2 w0 χ0 a2 pairs c2) :
    Ret Try.prog 38 #[.slice a1 order.length c1, .slice a2 pairs.length c2] xnone w0 χ0 (fun w χ' v => ∃ r, Q r ∧ v = .tuple #[.int .i64 r.1, .bool r.2]) := by
  unfold VC38 at hm
  replace hm := hm (h1.sm (by kernel_rfl))
  replace hm := hm (h2.sm (by kernel_rfl))
  refine enter Try.func38 rfl (vals := [.slice a1 order.length c1, .slice a2 pairs.length c2]) (by kernel_rfl) ?_
  intro ρ a hS hO hM
  replace h1 := h1.m0 hM
  replace h2 := h2.m0 hM
  clear hM
  refine regM T hS (sp := []) (ks := [1, 2]) (bs := [3]) (sy' := ⟨[(1, V (.slice a2 pairs.length c2)), (2, Pt 3 0)], [(3, (42, [V (.slice a1 order.length c1)]))]⟩) (by kernel_rfl) ?_
  intro ρ a w126 χ127 hS hE hr
  replace hO := hO.mv hE rfl rfl
  replace h1 := h1.mv hE rfl
  replace h2 := h2.mv hE rfl
  clear hE hr
  refine regP T hS (sp := []) (ks := [1, 6]) (bs := [3]) (sy' := ⟨[(1, V (.slice a2 pairs.length c2)), (6, .f (.func 63) [] [.p 3 0])], [(3, (42, [V (.slice a1 order.length c1)]))]⟩) (by kernel_rfl) ?_
  intro a hS
  refine wcut (fun a w => ∃ (ρ : Nat → Nat) (χ : Nat → Nat), VC38_J1 pairs Q ∧ St Try.f38.ntmps ⟨[(1, V (.slice a2 pairs.length c2))], []⟩ ρ a w χ ∧ Old w0 χ0 w χ ∧ RS tP2 w χ a2 pairs c2) ?_ ?_
  · refine regP T hS (sp := []) (ks := [1, 6, 12, 13, 14]) (bs := [3]) (sy' := ⟨[(1, V (.slice a2 pairs.length c2)), (6, .f (.func 63) [] [.p 3 0]), (12, V (.slice a2 pairs.length c2)), (13, I ((pairs.length : Nat) : Int)), (14, I 0)], [(3, (42, [V (.slice a1 order.length c1)]))]⟩) (by kernel_rfl) ?_
    intro a hS
    refine wblock ?_
    obtain ⟨I1, μ1, hm0, hm⟩ := hm
    refine wloop (σ := Int) (fun s a w => ∃ (ρ : Nat → Nat) (χ : Nat → Nat), I1 s ∧ St Try.f38.ntmps ⟨[(1, V (.slice a2 pairs.length c2)), (6, .f (.func 63) [] [.p 3 0]), (12, V (.slice a2 pairs.length c2)), (13, I ((pairs.length : Nat) : Int)), (14, I s)], [(3, (42, [V (.slice a1 order.length c1)]))]⟩ ρ a w χ ∧ Old w0 χ0 w χ ∧ RS tP2 w χ a2 pairs c2 ∧ RS tP2 w χ a2 pairs c2 ∧ RS tI w χ a1 order c1) (fun s => μ1 s) (0) ?_ ?_
    · exact ⟨ρ, _, hm0, hS.sel [1, 6, 12, 13, 14] [3] (by kernel_rfl), hO, h2, h2, h1⟩
    · rintro x_104 a w123 ⟨ρ, χ122, hI, hS, hO, h102, h103, h105⟩
      replace hm := hm x_104 hI
      clear hI hm0
      refine regP T hS (sp := []) (ks := [1, 6, 12, 13, 14, 15]) (bs := [3]) (sy' := ⟨[(1, V (.slice a2 pairs.length c2)), (6, .f (.func 63) [] [.p 3 0]), (12, V (.slice a2 pairs.length c2)), (13, I ((pairs.length : Nat) : Int)), (14, I x_104), (15, B (decide (x_104 < ((pairs.length : Nat) : Int))))], [(3, (42, [V (.slice a1 order.length c1)]))]⟩) (by kernel_rfl) ?_
      intro a hS
      refine wseq ?_
      refine wcond hS (b := decide (x_104 < ((pairs.length : Nat) : Int))) (by kernel_rfl) (fun hb => ?_) (fun hb => ?_)
      · replace hm := hm.1 hb
        refine wskip ?_
        refine wseq ?_
        refine wblock ?_
        refine regO ?_
        refine opsP T hS 1 (sp := []) (ks := [1, 6, 12, 13, 14, 16]) (bs := [3]) (sy' := ⟨[(1, V (.slice a2 pairs.length c2)), (6, .f (.func 63) [] [.p 3 0]), (12, V (.slice a2 pairs.length c2)), (13, I ((pairs.length : Nat) : Int)), (14, I x_104), (16, I x_104)], [(3, (42, [V (.slice a1 order.length c1)]))]⟩) (by kernel_rfl) ?_
        intro a hS
        obtain ⟨hq, hm⟩ := hm
        refine op1 (index (e := 68) (k := .i64) T hS (by kernel_rfl) (by kernel_rfl) (by kernel_rfl) (by kernel_rfl) h103 (by kernel_rfl) (by kernel_rfl) hq.1 hq.2 ?_)
        intro A106 a h107 hS
        clear hq
        refine op1 (loadA T hS (by kernel_rfl) (by kernel_rfl) (by kernel_rfl) h107 (by kernel_rfl) (by kernel_rfl) ?_)
        intro v108 a hv hS
        subst hv
        refine endM T hS (sp := []) (ks := [1, 6, 7, 8, 12, 13, 14]) (bs := [3, 9]) (sy' := ⟨[(1, V (.slice a2 pairs.length c2)), (6, .f (.func 63) [] [.p 3 0]), (7, I x_104), (8, Pt 9 0), (12, V (.slice a2 pairs.length c2)), (13, I ((pairs.length : Nat) : Int)), (14, I x_104)], [(3, (42, [V (.slice a1 order.length c1)])), (9, (68, [I ((gi pairs x_104).1), I ((gi pairs x_104).2)]))]⟩) (by kernel_rfl) ?_
        intro ρ a w120 χ121 hS hE hr
        replace hO := hO.mv hE rfl rfl
        replace h102 := h102.mv hE rfl
        replace h103 := h103.mv hE rfl
        replace h105 := h105.mv hE rfl
        clear hE hr
        refine drawnS [3, 9] mixed hS ?_
        intro w109 hS hE hD hH
        replace hO := hO.mv hE rfl rfl
        replace h102 := h102.mv hE rfl
        replace h103 := h103.mv hE rfl
        replace h105 := h105.mv hE rfl
        clear hE
        refine take T [0, 1, 4, 5, 2, 6] [3, 9] [1, 6, 7, 12, 13, 14, 19, 21, 23, 25] hS (by kernel_rfl) (by kernel_rfl) (by kernel_rfl) hH (listed' := #[true, true, true, false, true, true, true, false, false, false]) (fuel := 4) (sy' := ⟨[(1, V (.slice a2 pairs.length c2)), (6, .f (.func 63) [] [.p 3 0]), (7, I x_104), (12, V (.slice a2 pairs.length c2)), (13, I ((pairs.length : Nat) : Int)), (14, I x_104), (19, .f (.func 63) [] [.p 3 0]), (21, I ((gi pairs x_104).1)), (23, .f (.func 63) [] [.p 3 0]), (25, I ((gi pairs x_104).2))], [(3, (42, [V (.slice a1 order.length c1)])), (9, (68, [I ((gi pairs x_104).1), I ((gi pairs x_104).2)]))]⟩) (by kernel_rfl) (by rfl) ?_
        intro a hS
        refine only 3 (by kernel_rfl) (by rfl) (callCR (fi := []) (cp := [.p 3 0]) hS (by kernel_rfl) (by kernel_rfl) hb63 (by kernel_rfl) (by kernel_rfl) (k63 _ _ ((gi pairs x_104).1) order a1 c1 (ρ 3) 3 h105 (hS.cell (id := 3) (t := 42) (cs := [V (.slice a1 order.length c1)]) (by kernel_rfl)) ⟨by decide, by decide⟩) ?_)
        intro v110 a w111 χ112 hE hp hS
        replace hO := hO.mv hE rfl rfl
        replace hD := hD.ev hE rfl
        replace h102 := h102.mv hE rfl
        replace h103 := h103.mv hE rfl
        replace h105 := h105.mv hE rfl
        clear hE
        obtain ⟨hp, hc114⟩ := hp
        obtain ⟨r113, hr⟩ : ∃ r, times_Against_1 ((gi pairs x_104).1) order = r := ⟨_, rfl⟩
        replace hm := hm r113 hr
        rw [hr] at hp
        clear hr
        subst hp
        replace hS := hS.addbox (id := 3) (t := 42) (cs := [V (.slice a1 order.length c1)]) (by kernel_rfl) hc114
        clear hc114
        refine andH (Hold.of hS (bks := [3, 9]) (by kernel_rfl) hD) ?_
        intro hH
        refine only 7 (by kernel_rfl) (by rfl) (callCR (fi := []) (cp := [.p 3 0]) hS (by kernel_rfl) (by kernel_rfl) hb63 (by kernel_rfl) (by kernel_rfl) (k63 _ _ ((gi pairs x_104).2) order a1 c1 (ρ 3) 3 h105 (hS.cell (id := 3) (t := 42) (cs := [V (.slice a1 order.length c1)]) (by kernel_rfl)) ⟨by decide, by decide⟩) ?_)
        intro v115 a w116 χ117 hE hp hS
        replace hO := hO.mv hE rfl rfl
        replace hD := hD.ev hE rfl
        replace h102 := h102.mv hE rfl
        replace h103 := h103.mv hE rfl
        replace h105 := h105.mv hE rfl
        clear hE
        obtain ⟨hp, hc119⟩ := hp
        obtain ⟨r118, hr⟩ : ∃ r, times_Against_1 ((gi pairs x_104).2) order = r := ⟨_, rfl⟩
        replace hm := hm r118 hr
        rw [hr] at hp
        clear hr
        subst hp
        replace hS := hS.addbox (id := 3) (t := 42) (cs := [V (.slice a1 order.length c1)]) (by kernel_rfl) hc119
        clear hc119
        refine andH (Hold.of hS (bks := [3, 9]) (by kernel_rfl) hD) ?_
        intro hH
        refine take T [8, 9] [3, 9] [1, 6, 7, 9, 10, 12, 13, 14] hS (by kernel_rfl) (by kernel_rfl) (by kernel_rfl) hH (listed' := #[true, true, true, true, true, true, true, true, true, true]) (fuel := 0) (sy' := ⟨[(1, V (.slice a2 pairs.length c2)), (6, .f (.func 63) [] [.p 3 0]), (7, I x_104), (9, I r113), (10, I r118), (12, V (.slice a2 pairs.length c2)), (13, I ((pairs.length : Nat) : Int)), (14, I x_104)], [(3, (42, [V (.slice a1 order.length c1)])), (9, (68, [I ((gi pairs x_104).1), I ((gi pairs x_104).2)]))]⟩) (by kernel_rfl) (by rfl) ?_
        intro a hS
        refine drawnDone (by kernel_rfl) ?_
        clear hD hH
        replace hS := hS.sel [1, 6, 7, 9, 10, 12, 13, 14] [3] (sy' := ⟨[(1, V (.slice a2 pairs.length c2)), (6, .f (.func 63) [] [.p 3 0]), (7, I x_104), (9, I r113), (10, I r118), (12, V (.slice a2 pairs.length c2)), (13, I ((pairs.length : Nat) : Int)), (14, I x_104)], [(3, (42, [V (.slice a1 order.length c1)]))]⟩) (by kernel_rfl)
        refine regP T hS (sp := [29, 33]) (ks := [1, 6, 7, 12, 13, 14, 37]) (bs := [3]) (sy' := ⟨[(1, V (.slice a2 pairs.length c2)), (6, .f (.func 63) [] [.p 3 0]), (7, I x_104), (12, V (.slice a2 pairs.length c2)), (13, I ((pairs.length : Nat) : Int)), (14, I x_104), (37, B (((decide (r113 ≥ 0)) && (decide (r118 ≥ 0))) && (decide (r118 < r113))))], [(3, (42, [V (.slice a1 order.length c1)]))]⟩) (by kernel_rfl) ?_
        intro a hS
        refine wcond hS (b := (((decide (r113 ≥ 0)) && (decide (r118 ≥ 0))) && (decide (r118 < r113)))) (by kernel_rfl) (fun hb => ?_) (fun hb => ?_)
        · replace hm := hm.1 hb
          refine regP T hS (sp := []) (ks := [4, 5]) (bs := []) (sy' := ⟨[(4, I x_104), (5, B false)], []⟩) (by kernel_rfl) ?_
          intro a hS
          refine wret ?_
          exact fin T hS hO (fun c => c) rfl (r := [.int .i64 x_104, .bool false]) (by kernel_rfl) (fun χ' hM hC => ⟨(x_104, false), hm, rfl⟩)
        · replace hm := hm.2 hb
          refine wskip ?_
          refine region (endP T hS (sp := []) (ks := [1, 6, 12, 13, 14]) (bs := [3]) (sy' := ⟨[(1, V (.slice a2 pairs.length c2)), (6, .f (.func 63) [] [.p 3 0]), (12, V (.slice a2 pairs.length c2)), (13, I ((pairs.length : Nat) : Int)), (14, I (IntKind.i64.wrap (x_104 + 1)))], [(3, (42, [V (.slice a1 order.length c1)]))]⟩) (by kernel_rfl) ?_)
          intro a hS
          exact ⟨IntKind.i64.wrap (x_104 + 1), ⟨ρ, _, hm.1, hS.sel [1, 6, 12, 13, 14] [3] (by kernel_rfl), hO, h102, h103, h105⟩, hm.2⟩
      · replace hm := hm.2 hb
        refine wexit (by rfl) ?_
        exact ⟨ρ, _, hm, hS.sel [1] [] (by kernel_rfl), hO, h102⟩
  · rintro a w125 ⟨ρ, χ124, hm, hS, hO, h101⟩
    unfold VC38_J1 at hm
    refine regP T hS (sp := []) (ks := [4, 5]) (bs := []) (sy' := ⟨[(4, I ((pairs.length : Nat) : Int)), (5, B true)], []⟩) (by kernel_rfl) ?_
    intro a hS
    refine wret ?_
    exact fin T hS hO (fun c => c) rfl (r := [.int .i64 ((pairs.length : Nat) : Int), .bool true]) (by kernel_rfl) (fun χ' hM hC => ⟨(((pairs.length : Nat) : Int), true), hm, rfl⟩)
theorem C38 (k63 : S63) (v : ∀ (order : List Int) (pairs : List (Int × Int)), VC38 order pairs (fun r => r = times_Against order pairs)) : S38 := by
  intro w χ order pairs a1 c1 a2 c2   h1 h2
  refine (W38 k63 w χ order pairs a1 c1 a2 c2   _ (v order pairs) h1 h2).mono ?_
  rintro _ _ _ _ ⟨r, rfl, h⟩
  exact h
def S39 : Prop := ∀ (w : World) (χ : Nat → Nat) (order : List Int) (pairs : List (Int × Int)) (a1 : Option Addr) (c1 : Nat) (a2 : Option Addr) (c2 : Nat), RS tI w χ a1 order c1 → RS tP2 w χ a2 pairs c2 → Ret Try.prog 39 #[.slice a1 order.length c1, .slice a2 pairs.length c2] xnone w χ (fun w χ' v => v = .tuple #[.int .i64 ((ref33_Against order pairs).1), .bool ((ref33_Against order pairs).2)])
theorem hb39 : hasBody Try.prog 39 = true := by kernel_rfl
/-- replevin/replevinref33.Against -/
theorem W39 (k44 : S44) (w0 : World) (χ0 : Nat → Nat) (order : List Int) (pairs : List (Int × Int)) (a1 : Option Addr) (c1 : Nat) (a2 : Option Addr) (c2 : Nat) (Q : Int × Bool → Prop) (hm : VC39 order pairs Q) (h1 : RS tI w0 χ0 a1 order c1) (h2 : RS tP2 w0 χ0 a2 pairs c2) :
    Ret Try.prog 39 #[.slice a1 order.length c1, .slice a2 pairs.length c2] xnone w0 χ0 (fun w χ' v => ∃ r, Q r ∧ v = .tuple #[.int .i64 r.1, .bool r.2]) := by
  unfold VC39 at hm
  replace hm := hm (h1.sm (by kernel_rfl))
  replace hm := hm (h2.sm (by kernel_rfl))
  refine enter Try.func39 rfl (vals := [.slice a1 order.length c1, .slice a2 pairs.length c2]) (by kernel_rfl) ?_
  intro ρ a hS hO hM
  replace h1 := h1.m0 hM
  replace h2 := h2.m0 hM
  clear hM
  refine regP T hS (sp := []) (ks := [0, 1]) (bs := []) (sy' := ⟨[(0, V (.slice a1 order.length c1)), (1, V (.slice a2 pairs.length c2))], []⟩) (by kernel_rfl) ?_
  intro a hS
  refine wcut (fun a w => ∃ (ρ : Nat → Nat) (χ : Nat → Nat), VC39_J1 pairs Q ∧ St Try.f39.ntmps ⟨[(1, V (.slice a2 pairs.length c2))], []⟩ ρ a w χ ∧ Old w0 χ0 w χ ∧ RS tP2 w χ a2 pairs c2) ?_ ?_
  · refine regP T hS (sp := []) (ks := [0, 1, 6]) (bs := []) (sy' := ⟨[(0, V (.slice a1 order.length c1)), (1, V (.slice a2 pairs.length c2)), (6, I 0)], []⟩) (by kernel_rfl) ?_
    intro a hS
    refine wblock ?_
    obtain ⟨I1, μ1, hm0, hm⟩ := hm
    refine wloop (σ := Int) (fun s a w => ∃ (ρ : Nat → Nat) (χ : Nat → Nat), I1 s ∧ St Try.f39.ntmps ⟨[(0, V (.slice a1 order.length c1)), (1, V (.slice a2 pairs.length c2)), (6, I s)], []⟩ ρ a w χ ∧ Old w0 χ0 w χ ∧ RS tI w χ a1 order c1 ∧ RS tP2 w χ a2 pairs c2) (fun s => μ1 s) (0) ?_ ?_
    · exact ⟨ρ, _, hm0, hS.sel [0, 1, 6] [] (by kernel_rfl), hO, h1, h2⟩
    · rintro i_104 a w125 ⟨ρ, χ124, hI, hS, hO, h102, h103⟩
      replace hm := hm i_104 hI
      clear hI hm0
      refine wseq ?_
      refine regP T hS (sp := []) (ks := [0, 1, 6, 12]) (bs := []) (sy' := ⟨[(0, V (.slice a1 order.length c1)), (1, V (.slice a2 pairs.length c2)), (6, I i_104), (12, B (decide (i_104 < ((pairs.length : Nat) : Int))))], []⟩) (by kernel_rfl) ?_
      intro a hS
      refine wcond hS (b := decide (i_104 < ((pairs.length : Nat) : Int))) (by kernel_rfl) (fun hb => ?_) (fun hb => ?_)
      · replace hm := hm.1 hb
        refine wskip ?_
        refine wseq ?_
        refine wblock ?_
        refine drawnS [] mixed hS ?_
        intro w105 hS hE hD hH
        replace hO := hO.mv hE rfl rfl
        replace h102 := h102.mv hE rfl
        replace h103 := h103.mv hE rfl
        clear hE
        refine take T [0, 1, 2, 7, 8, 9] [] [0, 1, 6, 15, 16, 17, 22, 23, 24] hS (by kernel_rfl) (by kernel_rfl) (by kernel_rfl) hH (listed' := #[true, true, true, false, false, false, false, true, true, true, false, false, false, false, false, false]) (fuel := 10) (sy' := ⟨[(0, V (.slice a1 order.length c1)), (1, V (.slice a2 pairs.length c2)), (6, I i_104), (15, V (.slice a1 order.length c1)), (16, V (.slice a2 pairs.length c2)), (17, I i_104), (22, V (.slice a1 order.length c1)), (23, V (.slice a2 pairs.length c2)), (24, I i_104)], []⟩) (by kernel_rfl) (by rfl) ?_
        intro a hS
        obtain ⟨hq, hm⟩ := hm
        refine dindex (e := 68) (k := .i64) T 3 hS (by kernel_rfl) (by kernel_rfl) (by kernel_rfl) (by rfl) (by kernel_rfl) hH (by kernel_rfl) (by kernel_rfl) h103 (by kernel_rfl) (by kernel_rfl) hq.1 hq.2 ?_
        intro A106 a h107 hS
        clear hq
        have h107b := h107.here
        refine darrA (m := 2) (e := 3) (esz := 1) (k0 := .i64) (TF := tI) (z := (gi pairs i_104).1) (j := 0) 4 T hS (by kernel_rfl) (by kernel_rfl) (by kernel_rfl) (by rfl) (by kernel_rfl) hH (by kernel_rfl) (by kernel_rfl) h107 (by kernel_rfl) (by kernel_rfl) (by kernel_rfl) (by kernel_rfl) (fun cs h => by cases h; rfl) ?_
        intro A108 a h109 hbl hS
        have h109b := h107b
        rw [← hbl] at h109b
        clear hbl
        refine dload1 T 5 hS (by kernel_rfl) (by kernel_rfl) (by kernel_rfl) (by rfl) (by kernel_rfl) hH (by kernel_rfl) h109 h109b rfl (by kernel_rfl) ?_
        intro v110 a hv hS
        cases hv
        obtain ⟨hq, hm⟩ := hm
        refine dindex (e := 68) (k := .i64) T 10 hS (by kernel_rfl) (by kernel_rfl) (by kernel_rfl) (by rfl) (by kernel_rfl) hH (by kernel_rfl) (by kernel_rfl) h103 (by kernel_rfl) (by kernel_rfl) hq.1 hq.2 ?_
        intro A111 a h112 hS
        clear hq
        have h112b := h112.here
        refine darrA (m := 2) (e := 3) (esz := 1) (k0 := .i64) (TF := tI) (z := (gi pairs i_104).2) (j := 1) 11 T hS (by kernel_rfl) (by kernel_rfl) (by kernel_rfl) (by rfl) (by kernel_rfl) hH (by kernel_rfl) (by kernel_rfl) h112 (by kernel_rfl) (by kernel_rfl) (by kernel_rfl) (by kernel_rfl) (fun cs h => by cases h; rfl) ?_
        intro A113 a h114 hbl hS
        have h114b := h112b
        rw [← hbl] at h114b
        clear hbl
        refine dload1 T 12 hS (by kernel_rfl) (by kernel_rfl) (by kernel_rfl) (by rfl) (by kernel_rfl) hH (by kernel_rfl) h114 h114b rfl (by kernel_rfl) ?_
        intro v115 a hv hS
        cases hv
        refine only 6 (by kernel_rfl) (by rfl) (call hS (by kernel_rfl) (by kernel_rfl) hb44 (by kernel_rfl) (fun _ _ => rfl) (k44 _ _ order ((gi pairs i_104).1) a1 c1 h102) ?_)
        intro v116 a w117 χ118 hE hp hS
        replace hO := hO.mv hE rfl rfl
        replace hD := hD.ev hE rfl
        replace h102 := h102.mv hE rfl
        replace h103 := h103.mv hE rfl
        replace h107 := h107.mv hE rfl
        replace h109 := h109.mv hE rfl
        replace h112 := h112.mv hE rfl
        replace h114 := h114.mv hE rfl
        clear hE
        obtain ⟨r119, hr⟩ : ∃ r, ref33_Place order ((gi pairs i_104).1) = r := ⟨_, rfl⟩
        replace hm := hm r119 hr
        rw [hr] at hp
        clear hr
        subst hp
        refine andH (Hold.of hS (bks := []) (by kernel_rfl) hD) ?_
        intro hH
        refine only 13 (by kernel_rfl) (by rfl) (call hS (by kernel_rfl) (by kernel_rfl) hb44 (by kernel_rfl) (fun _ _ => rfl) (k44 _ _ order ((gi pairs i_104).2) a1 c1 h102) ?_)
        intro v120 a w121 χ122 hE hp hS
        replace hO := hO.mv hE rfl rfl
        replace hD := hD.ev hE rfl
        replace h102 := h102.mv hE rfl
        replace h103 := h103.mv hE rfl
        replace h107 := h107.mv hE rfl
        replace h109 := h109.mv hE rfl
        replace h112 := h112.mv hE rfl
        replace h114 := h114.mv hE rfl
        clear hE
        obtain ⟨r123, hr⟩ : ∃ r, ref33_Place order ((gi pairs i_104).2) = r := ⟨_, rfl⟩
        replace hm := hm r123 hr
        rw [hr] at hp
        clear hr
        subst hp
        refine andH (Hold.of hS (bks := []) (by kernel_rfl) hD) ?_
        intro hH
        refine take T [14, 15] [] [0, 1, 6, 7, 8] hS (by kernel_rfl) (by kernel_rfl) (by kernel_rfl) hH (listed' := #[true, true, true, true, true, true, true, true, true, true, true, true, true, true, true, true]) (fuel := 0) (sy' := ⟨[(0, V (.slice a1 order.length c1)), (1, V (.slice a2 pairs.length c2)), (6, I i_104), (7, I r119), (8, I r123)], []⟩) (by kernel_rfl) (by rfl) ?_
        intro a hS
        refine drawnDone (by kernel_rfl) ?_
        clear hD hH
        replace hS := hS.sel [0, 1, 6, 7, 8] [] (sy' := ⟨[(0, V (.slice a1 order.length c1)), (1, V (.slice a2 pairs.length c2)), (6, I i_104), (7, I r119), (8, I r123)], []⟩) (by kernel_rfl)
        refine regP T hS (sp := [31]) (ks := [0, 1, 6, 35]) (bs := []) (sy' := ⟨[(0, V (.slice a1 order.length c1)), (1, V (.slice a2 pairs.length c2)), (6, I i_104), (35, B ((decide (r123 ≥ 0)) && (decide (r119 > r123))))], []⟩) (by kernel_rfl) ?_
        intro a hS
        refine wcond hS (b := ((decide (r123 ≥ 0)) && (decide (r119 > r123)))) (by kernel_rfl) (fun hb => ?_) (fun hb => ?_)
        · replace hm := hm.1 hb
          refine regP T hS (sp := []) (ks := [4, 5]) (bs := []) (sy' := ⟨[(4, I i_104), (5, B false)], []⟩) (by kernel_rfl) ?_
          intro a hS
          refine wret ?_
          exact fin T hS hO (fun c => c) rfl (r := [.int .i64 i_104, .bool false]) (by kernel_rfl) (fun χ' hM hC => ⟨(i_104, false), hm, rfl⟩)
        · replace hm := hm.2 hb
          refine wskip ?_
          refine region (endP T hS (sp := []) (ks := [0, 1, 6]) (bs := []) (sy' := ⟨[(0, V (.slice a1 order.length c1)), (1, V (.slice a2 pairs.length c2)), (6, I (IntKind.i64.wrap (i_104 + 1)))], []⟩) (by kernel_rfl) ?_)
          intro a hS
          exact ⟨IntKind.i64.wrap (i_104 + 1), ⟨ρ, _, hm.1, hS.sel [0, 1, 6] [] (by kernel_rfl), hO, h102, h103⟩, hm.2⟩
      · replace hm := hm.2 hb
        refine wexit (by rfl) ?_
        exact ⟨ρ, _, hm, hS.sel [1] [] (by kernel_rfl), hO, h103⟩
  · rintro a w127 ⟨ρ, χ126, hm, hS, hO, h101⟩
    unfold VC39_J1 at hm
    refine regP T hS (sp := []) (ks := [4, 5]) (bs := []) (sy' := ⟨[(4, I ((pairs.length : Nat) : Int)), (5, B true)], []⟩) (by kernel_rfl) ?_
    intro a hS
    refine wret ?_
    exact fin T hS hO (fun c => c) rfl (r := [.int .i64 ((pairs.length : Nat) : Int), .bool true]) (by kernel_rfl) (fun χ' hM hC => ⟨(((pairs.length : Nat) : Int), true), hm, rfl⟩)
theorem C39 (k44 : S44) (v : ∀ (order : List Int) (pairs : List (Int × Int)), VC39 order pairs (fun r => r = ref33_Against order pairs)) : S39 := by
  intro w χ order pairs a1 c1 a2 c2   h1 h2
  refine (W39 k44 w χ order pairs a1 c1 a2 c2   _ (v order pairs) h1 h2).mono ?_
  rintro _ _ _ _ ⟨r, rfl, h⟩
  exact h
def S70 : Prop := ∀ (w : World) (χ : Nat → Nat) (a_ : Int) (b_ : Int) (cap1 : Numbering_Size) (b1 : Nat) (i1 : Nat), Cell w χ b1 i1 23 [.int .i64 cap1.Ops, .int .i64 cap1.States] → Apart [i1] → Ret Try.prog 70 #[.int .i64 a_, .int .i64 b_, .pointer (some ⟨b1, 0, none⟩)] (pR [i1]) w χ (fun w χ' v => v = .int .i64 (times_Clauses_1 a_ b_ cap1) ∧ Cell w χ' b1 i1 23 [.int .i64 cap1.Ops, .int .i64 cap1.States])
theorem hb70 : hasBody Try.prog 70 = true := by kernel_rfl
/-- replevin/times.Clauses$1 -/
theorem W70 (k24 : S24) (w0 : World) (χ0 : Nat → Nat) (a_ : Int) (b_ : Int) (cap1 : Numbering_Size) (b1 : Nat) (i1 : Nat) (Q : Int → Prop) (hm : VC70 a_ b_ cap1 Q) (hc1 : Cell w0 χ0 b1 i1 23 [.int .i64 cap1.Ops, .int .i64 cap1.States]) (hA : Apart [i1]) :
    Ret Try.prog 70 #[.int .i64 a_, .int .i64 b_, .pointer (some ⟨b1, 0, none⟩)] (pR [i1]) w0 χ0 (fun w χ' v => ∃ r, Q r ∧ v = .int .i64 r ∧ Cell w χ' b1 i1 23 [.int .i64 cap1.Ops, .int .i64 cap1.States]) := by
  unfold VC70 at hm
  refine enterR Try.func70 rfl (f0of [(i1, 901)]) (fun id => (bif Nat.beq id 901 then b1 else 0)) (args := [I a_, I b_, Pt 901 0]) (bxs := [(901, (23, [I cap1.Ops, I cap1.States]))]) (by kernel_rfl) rfl (BoxesOK.cons (by kernel_rfl) (hc1.map (f0of_at 0 hA.1 rfl)) BoxesOK.nil) (f0of_0 (fun q hq => (hA.2 q.1 (List.mem_map.2 ⟨q, hq, rfl⟩)).1)) ?_
  intro a hS hO hM
  have hP : Pin [(901, b1)] (fun id => (bif Nat.beq id 901 then b1 else 0)) := by intro q hq; simp at hq; rcases hq with rfl <;> rfl
  generalize (fun id => (bif Nat.beq id 901 then b1 else 0)) = ρ at hS hP
  clear hc1
  clear hM
  refine regP T hS (sp := []) (ks := [0, 1, 2]) (bs := [901]) (sy' := ⟨[(0, I a_), (1, I b_), (2, Pt 901 0)], [(901, (23, [I cap1.Ops, I cap1.States]))]⟩) (by kernel_rfl) ?_
  intro a hS
  refine regO ?_
  refine opsP T hS 4 (sp := []) (ks := [6, 9]) (bs := [901]) (sy' := ⟨[(6, V (.agg #[.int .i64 cap1.Ops, .int .i64 cap1.States])), (9, V (.agg #[.int .i64 1, .int .i64 a_, .int .i64 b_]))], [(901, (23, [I cap1.Ops, I cap1.States]))]⟩) (by kernel_rfl) ?_
  intro a hS
  refine op1 (call hS (by kernel_rfl) (by kernel_rfl) hb24 (by kernel_rfl) (fun _ _ => rfl) (k24 _ _ cap1 (⟨1, a_, b_⟩ : Numbering_Name)) ?_)
  intro v101 a w102 χ103 hE hp hS
  replace hO := hO.mv hE rfl rfl
  clear hE
  obtain ⟨r104, hr⟩ : ∃ r, numbering_Var cap1 (⟨1, a_, b_⟩ : Numbering_Name) = r := ⟨_, rfl⟩
  replace hm := hm r104 hr
  rw [hr] at hp
  clear hr
  subst hp
  refine endP T hS (sp := []) (ks := [5]) (bs := [901]) (sy' := ⟨[(5, I r104)], [(901, (23, [I cap1.Ops, I cap1.States]))]⟩) (by kernel_rfl) ?_
  intro a hS
  refine wret ?_
  exact finR T hS hO (fun c h => f0of_zero (by kernel_rfl) h) (fun c h => f0of_else (l := [(i1, 901)]) h) (f1of [(i1, 901)]) rfl (r := [.int .i64 r104]) (by kernel_rfl) (fun χ' hM hC => ⟨r104, hm, rfl, ((hS.cell (id := 901) (t := 23) (cs := [I cap1.Ops, I cap1.States]) (by kernel_rfl)).out (f := (f1of [(i1, 901)])) hC (by kernel_rfl) (by kernel_rfl) (hP.at 0 rfl))⟩)
theorem C70 (k24 : S24) (v : ∀ (a_ : Int) (b_ : Int) (cap1 : Numbering_Size), VC70 a_ b_ cap1 (fun r => r = times_Clauses_1 a_ b_ cap1)) : S70 := by
  intro w χ a_ b_ cap1   b1 i1 hc1 hA
  refine (W70 k24 w χ a_ b_ cap1   b1 i1 _ (v a_ b_ cap1) hc1 hA).mono ?_
  rintro _ _ _ _ ⟨r, rfl, h⟩
  exact h
def S42 : Prop := ∀ (w : World) (χ : Nat → Nat) (s_ : Numbering_Size) (pairs : List (Int × Int)) (a1 : Option Addr) (c1 : Nat), preCl s_ pairs → RS tP2 w χ a1 pairs c1 → Ret Try.prog 42 #[.agg #[.int .i64 s_.Ops, .int .i64 s_.States], .slice a1 pairs.length c1] xnone w χ (fun w χ' v => ∃ (ra1 : Option Addr) (rc1 : Nat), v = .slice ra1 (times_Clauses s_ pairs).length rc1 ∧ RS (tSlice tI) w χ' ra1 (times_Clauses s_ pairs) rc1)
theorem hb42 : hasBody Try.prog 42 = true := by kernel_rfl
/-- replevin/times.Clauses -/
theorem W42 (k21 : S21) (k67 : S67) (k70 : S70) (w0 : World) (χ0 : Nat → Nat) (s_ : Numbering_Size) (pairs : List (Int × Int)) (a1 : Option Addr) (c1 : Nat) (Q : (List (List Int)) → Prop) (hm : VC42 s_ pairs Q) (h1 : RS tP2 w0 χ0 a1 pairs c1) :
    Ret Try.prog 42 #[.agg #[.int .i64 s_.Ops, .int .i64 s_.States], .slice a1 pairs.length c1] xnone w0 χ0 (fun w χ' v => ∃ r, Q r ∧ ∃ (ra1 : Option Addr) (rc1 : Nat), v = .slice ra1 r.length rc1 ∧ RS (tSlice tI) w χ' ra1 r rc1) := by
  unfold VC42 at hm
  replace hm := hm (h1.sm (by kernel_rfl))
  refine enter Try.func42 rfl (vals := [.agg #[.int .i64 s_.Ops, .int .i64 s_.States], .slice a1 pairs.length c1]) (by kernel_rfl) ?_
  intro ρ a hS hO hM
  replace h1 := h1.m0 hM
  clear hM
  refine regM T hS (sp := []) (ks := [1, 2]) (bs := [3]) (sy' := ⟨[(1, V (.slice a1 pairs.length c1)), (2, Pt 3 0)], [(3, (23, [I s_.Ops, I s_.States]))]⟩) (by kernel_rfl) ?_
  intro ρ a w184 χ185 hS hE hr
  replace hO := hO.mv hE rfl rfl
  replace h1 := h1.mv hE rfl
  clear hE hr
  refine wseq ?_
  refine regO ?_
  refine opsP T hS 1 (sp := []) (ks := [1, 2, 11]) (bs := [3]) (sy' := ⟨[(1, V (.slice a1 pairs.length c1)), (2, Pt 3 0), (11, V (.agg #[.int .i64 s_.Ops, .int .i64 s_.States]))], [(3, (23, [I s_.Ops, I s_.States]))]⟩) (by kernel_rfl) ?_
  intro a hS
  refine op1 (call hS (by kernel_rfl) (by kernel_rfl) hb21 (by kernel_rfl) (fun _ _ => rfl) (k21 _ _ s_) ?_)
  intro v101 a w102 χ103 hE hp hS
  replace hO := hO.mv hE rfl rfl
  replace h1 := h1.mv hE rfl
  clear hE
  obtain ⟨r104, hr⟩ : ∃ r, numbering_Check s_ = r := ⟨_, rfl⟩
  replace hm := hm r104 hr
  rw [hr] at hp
  clear hr
  subst hp
  refine endP T hS (sp := []) (ks := [1, 2, 13]) (bs := [3]) (sy' := ⟨[(1, V (.slice a1 pairs.length c1)), (2, Pt 3 0), (13, B (r104 != 0))], [(3, (23, [I s_.Ops, I s_.States]))]⟩) (by kernel_rfl) ?_
  intro a hS
  refine wcond hS (b := (r104 != 0)) (by kernel_rfl) (fun hb => ?_) (fun hb => ?_)
  · replace hm := hm.1 hb
    refine regP T hS (sp := []) (ks := [4]) (bs := []) (sy' := ⟨[(4, V (.slice none 0 0))], []⟩) (by kernel_rfl) ?_
    intro a hS
    refine wret ?_
    exact fin T hS hO (fun c => c) rfl (r := [.slice none 0 0]) (by kernel_rfl) (fun χ' hM hC => ⟨[], hm, none, 0, rfl, RS.empty _ _ _⟩)
  · replace hm := hm.2 hb
    refine wskip ?_
    refine regP T hS (sp := []) (ks := [1, 2, 5]) (bs := [3]) (sy' := ⟨[(1, V (.slice a1 pairs.length c1)), (2, Pt 3 0), (5, .f (.func 70) [] [.p 3 0])], [(3, (23, [I s_.Ops, I s_.States]))]⟩) (by kernel_rfl) ?_
    intro a hS
    refine regP T hS (sp := []) (ks := [1, 2, 5, 6]) (bs := [3]) (sy' := ⟨[(1, V (.slice a1 pairs.length c1)), (2, Pt 3 0), (5, .f (.func 70) [] [.p 3 0]), (6, V (.slice none 0 0))], [(3, (23, [I s_.Ops, I s_.States]))]⟩) (by kernel_rfl) ?_
    intro a hS
    refine wcut (fun a w => ∃ (ρ : Nat → Nat) (χ : Nat → Nat) (out_105 : List (List Int)) (a106 : Option Addr) (c107 : Nat), VC42_J1 Q out_105 ∧ St Try.f42.ntmps ⟨[(6, V (.slice a106 out_105.length c107))], []⟩ ρ a w χ ∧ Old w0 χ0 w χ ∧ OS (tSlice tI) 42 w χ 1005 a106 out_105 c107) ?_ ?_
    · refine regP T hS (sp := []) (ks := [2, 5, 6, 15, 16, 17]) (bs := [3]) (sy' := ⟨[(2, Pt 3 0), (5, .f (.func 70) [] [.p 3 0]), (6, V (.slice none 0 0)), (15, V (.slice a1 pairs.length c1)), (16, I ((pairs.length : Nat) : Int)), (17, I 0)], [(3, (23, [I s_.Ops, I s_.States]))]⟩) (by kernel_rfl) ?_
      intro a hS
      refine wblock ?_
      obtain ⟨I1, μ1, hm0, hm⟩ := hm
      refine wloop (σ := (List (List Int)) × Int) (fun s a w => ∃ (ρ : Nat → Nat) (χ : Nat → Nat) (a112 : Option Addr) (c113 : Nat), I1 s.1 s.2 ∧ St Try.f42.ntmps ⟨[(2, Pt 3 0), (5, .f (.func 70) [] [.p 3 0]), (6, V (.slice a112 s.1.length c113)), (15, V (.slice a1 pairs.length c1)), (16, I ((pairs.length : Nat) : Int)), (17, I s.2)], [(3, (23, [I s_.Ops, I s_.States]))]⟩ ρ a w χ ∧ Old w0 χ0 w χ ∧ OS (tSlice tI) 42 w χ 1005 a112 s.1 c113 ∧ RS tP2 w χ a1 pairs c1) (fun s => μ1 s.1 s.2) (⟨[], 0⟩) ?_ ?_
      · exact ⟨ρ, _, none, 0, hm0, hS.sel [2, 5, 6, 15, 16, 17] [3] (by kernel_rfl), hO, (OS.nil _ _ _ _ _), h1⟩
      · rintro ⟨out_111, x_116⟩ a w181 ⟨ρ, χ180, a112, c113, hI, hS, hO, h114, h115⟩
        replace hm := hm out_111 x_116 hI
        clear hI hm0
        refine regP T hS (sp := []) (ks := [2, 5, 6, 15, 16, 17, 18]) (bs := [3]) (sy' := ⟨[(2, Pt 3 0), (5, .f (.func 70) [] [.p 3 0]), (6, V (.slice a112 out_111.length c113)), (15, V (.slice a1 pairs.length c1)), (16, I ((pairs.length : Nat) : Int)), (17, I x_116), (18, B (decide (x_116 < ((pairs.length : Nat) : Int))))], [(3, (23, [I s_.Ops, I s_.States]))]⟩) (by kernel_rfl) ?_
        intro a hS
        refine wseq ?_
        refine wcond hS (b := decide (x_116 < ((pairs.length : Nat) : Int))) (by kernel_rfl) (fun hb => ?_) (fun hb => ?_)
        · replace hm := hm.1 hb
          refine wskip ?_
          refine wcut (fun a w => ∃ (ρ : Nat → Nat) (χ : Nat → Nat) (out_117 : List (List Int)) (a118 : Option Addr) (c119 : Nat), VC42_J2 I1 μ1 out_111 x_116 out_117 ∧ St Try.f42.ntmps ⟨[(2, Pt 3 0), (5, .f (.func 70) [] [.p 3 0]), (6, V (.slice a118 out_117.length c119)), (15, V (.slice a1 pairs.length c1)), (16, I ((pairs.length : Nat) : Int)), (17, I x_116)], [(3, (23, [I s_.Ops, I s_.States]))]⟩ ρ a w χ ∧ Old w0 χ0 w χ ∧ OS (tSlice tI) 42 w χ 1005 a118 out_117 c119 ∧ RS tP2 w χ a1 pairs c1) ?_ ?_
          · refine wblock ?_
            refine regO ?_
            obtain ⟨hq, hm⟩ := hm
            refine op1 (index (e := 68) (k := .i64) T hS (by kernel_rfl) (by kernel_rfl) (by kernel_rfl) (by kernel_rfl) h115 (by kernel_rfl) (by kernel_rfl) hq.1 hq.2 ?_)
            intro A122 a h123 hS
            clear hq
            refine op1 (loadA T hS (by kernel_rfl) (by kernel_rfl) (by kernel_rfl) h123 (by kernel_rfl) (by kernel_rfl) ?_)
            intro v124 a hv hS
            subst hv
            refine endM T hS (sp := []) (ks := [2, 5, 6, 8, 15, 16, 17]) (bs := [3, 9]) (sy' := ⟨[(2, Pt 3 0), (5, .f (.func 70) [] [.p 3 0]), (6, V (.slice a112 out_111.length c113)), (8, Pt 9 0), (15, V (.slice a1 pairs.length c1)), (16, I ((pairs.length : Nat) : Int)), (17, I x_116)], [(3, (23, [I s_.Ops, I s_.States])), (9, (68, [I ((gi pairs x_116).1), I ((gi pairs x_116).2)]))]⟩) (by kernel_rfl) ?_
            intro ρ a w176 χ177 hS hE hr
            replace hO := hO.mv hE rfl rfl
            replace h114 := h114.mv hE rfl rfl
            replace h115 := h115.mv hE rfl
            clear hE hr
            refine wseq ?_
            refine regO ?_
            refine opsP T hS 3 (sp := []) (ks := [2, 5, 6, 8, 15, 16, 17, 21, 23]) (bs := [3, 9]) (sy' := ⟨[(2, Pt 3 0), (5, .f (.func 70) [] [.p 3 0]), (6, V (.slice a112 out_111.length c113)), (8, Pt 9 0), (15, V (.slice a1 pairs.length c1)), (16, I ((pairs.length : Nat) : Int)), (17, I x_116), (21, V (.agg #[.int .i64 ((gi pairs x_116).1), .int .i64 ((gi pairs x_116).2)])), (23, I s_.Ops)], [(3, (23, [I s_.Ops, I s_.States])), (9, (68, [I ((gi pairs x_116).1), I ((gi pairs x_116).2)]))]⟩) (by kernel_rfl) ?_
            intro a hS
            refine op1 (call hS (by kernel_rfl) (by kernel_rfl) hb67 (by kernel_rfl) (fun _ _ => rfl) (k67 _ _ ((gi pairs x_116).1, (gi pairs x_116).2) s_.Ops) ?_)
            intro v125 a w126 χ127 hE hp hS
            replace hO := hO.mv hE rfl rfl
            replace h114 := h114.mv hE rfl rfl
            replace h115 := h115.mv hE rfl
            clear hE
            obtain ⟨r128, hr⟩ : ∃ r, times_proper ((gi pairs x_116).1, (gi pairs x_116).2) s_.Ops = r := ⟨_, rfl⟩
            replace hm := hm r128 hr
            rw [hr] at hp
            clear hr
            subst hp
            refine endP T hS (sp := []) (ks := [2, 5, 6, 8, 15, 16, 17, 25]) (bs := [3, 9]) (sy' := ⟨[(2, Pt 3 0), (5, .f (.func 70) [] [.p 3 0]), (6, V (.slice a112 out_111.length c113)), (8, Pt 9 0), (15, V (.slice a1 pairs.length c1)), (16, I ((pairs.length : Nat) : Int)), (17, I x_116), (25, B (!r128))], [(3, (23, [I s_.Ops, I s_.States])), (9, (68, [I ((gi pairs x_116).1), I ((gi pairs x_116).2)]))]⟩) (by kernel_rfl) ?_
            intro a hS
            refine wcond hS (b := (!r128)) (by kernel_rfl) (fun hb => ?_) (fun hb => ?_)
            · replace hm := hm.1 hb
              refine wexit (by rfl) ?_
              exact ⟨ρ, _, out_111, a112, c113, hm, hS.sel [2, 5, 6, 15, 16, 17] [3] (by kernel_rfl), hO, h114, h115⟩
            · replace hm := hm.2 hb
              refine wskip ?_
              refine regP T hS (sp := []) (ks := [2, 5, 6, 8, 15, 16, 17, 27, 28]) (bs := [3, 9]) (sy' := ⟨[(2, Pt 3 0), (5, .f (.func 70) [] [.p 3 0]), (6, V (.slice a112 out_111.length c113)), (8, Pt 9 0), (15, V (.slice a1 pairs.length c1)), (16, I ((pairs.length : Nat) : Int)), (17, I x_116), (27, I s_.Ops), (28, I 0)], [(3, (23, [I s_.Ops, I s_.States])), (9, (68, [I ((gi pairs x_116).1), I ((gi pairs x_116).2)]))]⟩) (by kernel_rfl) ?_
              intro a hS
              refine wblock ?_
              obtain ⟨I2, μ2, hm0, hm⟩ := hm
              refine wloop (σ := (List (List Int)) × Int) (fun s a w => ∃ (ρ : Nat → Nat) (χ : Nat → Nat) (a130 : Option Addr) (c131 : Nat), I2 s.1 s.2 ∧ St Try.f42.ntmps ⟨[(2, Pt 3 0), (5, .f (.func 70) [] [.p 3 0]), (6, V (.slice a130 s.1.length c131)), (8, Pt 9 0), (15, V (.slice a1 pairs.length c1)), (16, I ((pairs.length : Nat) : Int)), (17, I x_116), (27, I s_.Ops), (28, I s.2)], [(3, (23, [I s_.Ops, I s_.States])), (9, (68, [I ((gi pairs x_116).1), I ((gi pairs x_116).2)]))]⟩ ρ a w χ ∧ Old w0 χ0 w χ ∧ OS (tSlice tI) 42 w χ 1005 a130 s.1 c131 ∧ RS tP2 w χ a1 pairs c1) (fun s => μ2 s.1 s.2) (⟨out_111, 0⟩) ?_ ?_
              · exact ⟨ρ, _, a112, c113, hm0, hS.sel [2, 5, 6, 8, 15, 16, 17, 27, 28] [3, 9] (by kernel_rfl), hO, h114, h115⟩
              · rintro ⟨out_129, x_134⟩ a w175 ⟨ρ, χ174, a130, c131, hI, hS, hO, h132, h133⟩
                replace hm := hm out_129 x_134 hI
                clear hI hm0
                refine regP T hS (sp := []) (ks := [2, 5, 6, 8, 15, 16, 17, 27, 28, 29]) (bs := [3, 9]) (sy' := ⟨[(2, Pt 3 0), (5, .f (.func 70) [] [.p 3 0]), (6, V (.slice a130 out_129.length c131)), (8, Pt 9 0), (15, V (.slice a1 pairs.length c1)), (16, I ((pairs.length : Nat) : Int)), (17, I x_116), (27, I s_.Ops), (28, I x_134), (29, B (decide (x_134 < s_.Ops)))], [(3, (23, [I s_.Ops, I s_.States])), (9, (68, [I ((gi pairs x_116).1), I ((gi pairs x_116).2)]))]⟩) (by kernel_rfl) ?_
                intro a hS
                refine wseq ?_
                refine wcond hS (b := decide (x_134 < s_.Ops)) (by kernel_rfl) (fun hb => ?_) (fun hb => ?_)
                · replace hm := hm.1 hb
                  refine wskip ?_
                  refine wcut (fun a w => ∃ (ρ : Nat → Nat) (χ : Nat → Nat) (out_135 : List (List Int)) (a136 : Option Addr) (c137 : Nat), VC42_J3 I2 μ2 out_129 x_134 out_135 ∧ St Try.f42.ntmps ⟨[(2, Pt 3 0), (5, .f (.func 70) [] [.p 3 0]), (6, V (.slice a136 out_135.length c137)), (8, Pt 9 0), (15, V (.slice a1 pairs.length c1)), (16, I ((pairs.length : Nat) : Int)), (17, I x_116), (27, I s_.Ops), (28, I x_134)], [(3, (23, [I s_.Ops, I s_.States])), (9, (68, [I ((gi pairs x_116).1), I ((gi pairs x_116).2)]))]⟩ ρ a w χ ∧ Old w0 χ0 w χ ∧ OS (tSlice tI) 42 w χ 1005 a136 out_135 c137 ∧ RS tP2 w χ a1 pairs c1) ?_ ?_
                  · refine wblock ?_
                    refine regP T hS (sp := []) (ks := [2, 5, 6, 8, 9, 15, 16, 17, 27, 28]) (bs := [3, 9]) (sy' := ⟨[(2, Pt 3 0), (5, .f (.func 70) [] [.p 3 0]), (6, V (.slice a130 out_129.length c131)), (8, Pt 9 0), (9, I x_134), (15, V (.slice a1 pairs.length c1)), (16, I ((pairs.length : Nat) : Int)), (17, I x_116), (27, I s_.Ops), (28, I x_134)], [(3, (23, [I s_.Ops, I s_.States])), (9, (68, [I ((gi pairs x_116).1), I ((gi pairs x_116).2)]))]⟩) (by kernel_rfl) ?_
                    intro a hS
                    refine regP T hS (sp := []) (ks := [2, 5, 6, 8, 9, 15, 16, 17, 27, 28, 31, 32]) (bs := [3, 9]) (sy' := ⟨[(2, Pt 3 0), (5, .f (.func 70) [] [.p 3 0]), (6, V (.slice a130 out_129.length c131)), (8, Pt 9 0), (9, I x_134), (15, V (.slice a1 pairs.length c1)), (16, I ((pairs.length : Nat) : Int)), (17, I x_116), (27, I s_.Ops), (28, I x_134), (31, I x_134), (32, I 0)], [(3, (23, [I s_.Ops, I s_.States])), (9, (68, [I ((gi pairs x_116).1), I ((gi pairs x_116).2)]))]⟩) (by kernel_rfl) ?_
                    intro a hS
                    refine wblock ?_
                    obtain ⟨I3, μ3, hm0, hm⟩ := hm
                    refine wloop (σ := (List (List Int)) × Int) (fun s a w => ∃ (ρ : Nat → Nat) (χ : Nat → Nat) (a141 : Option Addr) (c142 : Nat), I3 s.1 s.2 ∧ St Try.f42.ntmps ⟨[(2, Pt 3 0), (5, .f (.func 70) [] [.p 3 0]), (6, V (.slice a141 s.1.length c142)), (8, Pt 9 0), (9, I x_134), (15, V (.slice a1 pairs.length c1)), (16, I ((pairs.length : Nat) : Int)), (17, I x_116), (27, I s_.Ops), (28, I x_134), (31, I x_134), (32, I s.2)], [(3, (23, [I s_.Ops, I s_.States])), (9, (68, [I ((gi pairs x_116).1), I ((gi pairs x_116).2)]))]⟩ ρ a w χ ∧ Old w0 χ0 w χ ∧ OS (tSlice tI) 42 w χ 1005 a141 s.1 c142 ∧ RS tP2 w χ a1 pairs c1) (fun s => μ3 s.1 s.2) (⟨out_129, 0⟩) ?_ ?_
                    · exact ⟨ρ, _, a130, c131, hm0, hS.sel [2, 5, 6, 8, 9, 15, 16, 17, 27, 28, 31, 32] [3, 9] (by kernel_rfl), hO, h132, h133⟩
                    · rintro ⟨out_140, x_145⟩ a w171 ⟨ρ, χ170, a141, c142, hI, hS, hO, h143, h144⟩
                      replace hm := hm out_140 x_145 hI
                      clear hI hm0
                      refine regP T hS (sp := []) (ks := [2, 5, 6, 8, 9, 15, 16, 17, 27, 28, 31, 32, 33]) (bs := [3, 9]) (sy' := ⟨[(2, Pt 3 0), (5, .f (.func 70) [] [.p 3 0]), (6, V (.slice a141 out_140.length c142)), (8, Pt 9 0), (9, I x_134), (15, V (.slice a1 pairs.length c1)), (16, I ((pairs.length : Nat) : Int)), (17, I x_116), (27, I s_.Ops), (28, I x_134), (31, I x_134), (32, I x_145), (33, B (decide (x_145 < x_134)))], [(3, (23, [I s_.Ops, I s_.States])), (9, (68, [I ((gi pairs x_116).1), I ((gi pairs x_116).2)]))]⟩) (by kernel_rfl) ?_
                      intro a hS
                      refine wseq ?_
                      refine wcond hS (b := decide (x_145 < x_134)) (by kernel_rfl) (fun hb => ?_) (fun hb => ?_)
                      · replace hm := hm.1 hb
                        refine wskip ?_
                        refine wseq ?_
                        refine wblock ?_
                        refine regP T hS (sp := []) (ks := [2, 5, 6, 8, 9, 10, 15, 16, 17, 27, 28, 31, 32]) (bs := [3, 9]) (sy' := ⟨[(2, Pt 3 0), (5, .f (.func 70) [] [.p 3 0]), (6, V (.slice a141 out_140.length c142)), (8, Pt 9 0), (9, I x_134), (10, I x_145), (15, V (.slice a1 pairs.length c1)), (16, I ((pairs.length : Nat) : Int)), (17, I x_116), (27, I s_.Ops), (28, I x_134), (31, I x_134), (32, I x_145)], [(3, (23, [I s_.Ops, I s_.States])), (9, (68, [I ((gi pairs x_116).1), I ((gi pairs x_116).2)]))]⟩) (by kernel_rfl) ?_
                        intro a hS
                        refine drawn [3, 9] mixed hS ?_
                        intro w146 hS hE hD hH
                        replace hO := hO.mv hE rfl rfl
                        replace h143 := h143.mv hE rfl rfl
                        replace h144 := h144.mv hE rfl
                        clear hE
                        refine take T [0, 1, 2, 4, 7, 8, 10, 3, 9] [3, 9] [2, 5, 6, 8, 9, 15, 16, 17, 27, 28, 31, 32, 35, 36, 38, 39, 42, 44, 45] hS (by kernel_rfl) (by kernel_rfl) (by kernel_rfl) hH (listed' := #[true, true, true, true, true, false, false, true, true, true, true, false, false, false, false, false, false]) (fuel := 8) (sy' := ⟨[(2, Pt 3 0), (5, .f (.func 70) [] [.p 3 0]), (6, V (.slice a141 out_140.length c142)), (8, Pt 9 0), (9, I x_134), (15, V (.slice a1 pairs.length c1)), (16, I ((pairs.length : Nat) : Int)), (17, I x_116), (27, I s_.Ops), (28, I x_134), (31, I x_134), (32, I x_145), (35, V (.slice a141 out_140.length c142)), (36, .f (.func 70) [] [.p 3 0]), (38, I ((gi pairs x_116).1)), (39, I x_134), (42, .f (.func 70) [] [.p 3 0]), (44, I ((gi pairs x_116).2)), (45, I x_145)], [(3, (23, [I s_.Ops, I s_.States])), (9, (68, [I ((gi pairs x_116).1), I ((gi pairs x_116).2)]))]⟩) (by kernel_rfl) (by rfl) ?_
                        intro a hS
                        refine only 5 (by kernel_rfl) (by rfl) (callCR (fi := []) (cp := [.p 3 0]) hS (by kernel_rfl) (by kernel_rfl) hb70 (by kernel_rfl) (by kernel_rfl) (k70 _ _ ((gi pairs x_116).1) x_134 s_ (ρ 3) 3 (hS.cell (id := 3) (t := 23) (cs := [I s_.Ops, I s_.States]) (by kernel_rfl)) ⟨by decide, by decide⟩) ?_)
                        intro v147 a w148 χ149 hE hp hS
                        replace hO := hO.mv hE rfl rfl
                        replace hD := hD.ev hE rfl
                        replace h143 := h143.mv hE rfl rfl
                        replace h144 := h144.mv hE rfl
                        clear hE
                        obtain ⟨hp, hc151⟩ := hp
                        obtain ⟨r150, hr⟩ : ∃ r, times_Clauses_1 ((gi pairs x_116).1) x_134 s_ = r := ⟨_, rfl⟩
                        replace hm := hm r150 hr
                        rw [hr] at hp
                        clear hr
                        subst hp
                        replace hS := hS.addbox (id := 3) (t := 23) (cs := [I s_.Ops, I s_.States]) (by kernel_rfl) hc151
                        clear hc151
                        refine andH (Hold.of hS (bks := [3, 9]) (by kernel_rfl) hD) ?_
                        intro hH
                        refine take T [6] [3, 9] [2, 5, 6, 8, 9, 15, 16, 17, 27, 28, 31, 32, 35, 41, 42, 44, 45] hS (by kernel_rfl) (by kernel_rfl) (by kernel_rfl) hH (listed' := #[true, true, true, true, true, true, true, true, true, true, true, false, false, false, false, false, false]) (fuel := 6) (sy' := ⟨[(2, Pt 3 0), (5, .f (.func 70) [] [.p 3 0]), (6, V (.slice a141 out_140.length c142)), (8, Pt 9 0), (9, I x_134), (15, V (.slice a1 pairs.length c1)), (16, I ((pairs.length : Nat) : Int)), (17, I x_116), (27, I s_.Ops), (28, I x_134), (31, I x_134), (32, I x_145), (35, V (.slice a141 out_140.length c142)), (41, I (IntKind.i64.wrap (0 - r150))), (42, .f (.func 70) [] [.p 3 0]), (44, I ((gi pairs x_116).2)), (45, I x_145)], [(3, (23, [I s_.Ops, I s_.States])), (9, (68, [I ((gi pairs x_116).1), I ((gi pairs x_116).2)]))]⟩) (by kernel_rfl) (by rfl) ?_
                        intro a hS
                        refine only 11 (by kernel_rfl) (by rfl) (callCR (fi := []) (cp := [.p 3 0]) hS (by kernel_rfl) (by kernel_rfl) hb70 (by kernel_rfl) (by kernel_rfl) (k70 _ _ ((gi pairs x_116).2) x_145 s_ (ρ 3) 3 (hS.cell (id := 3) (t := 23) (cs := [I s_.Ops, I s_.States]) (by kernel_rfl)) ⟨by decide, by decide⟩) ?_)
                        intro v152 a w153 χ154 hE hp hS
                        replace hO := hO.mv hE rfl rfl
                        replace hD := hD.ev hE rfl
                        replace h143 := h143.mv hE rfl rfl
                        replace h144 := h144.mv hE rfl
                        clear hE
                        obtain ⟨hp, hc156⟩ := hp
                        obtain ⟨r155, hr⟩ : ∃ r, times_Clauses_1 ((gi pairs x_116).2) x_145 s_ = r := ⟨_, rfl⟩
                        replace hm := hm r155 hr
                        rw [hr] at hp
                        clear hr
                        subst hp
                        replace hS := hS.addbox (id := 3) (t := 23) (cs := [I s_.Ops, I s_.States]) (by kernel_rfl) hc156
                        clear hc156
                        refine andH (Hold.of hS (bks := [3, 9]) (by kernel_rfl) hD) ?_
                        intro hH
                        refine take T [12] [3, 9] [2, 5, 6, 8, 9, 15, 16, 17, 27, 28, 31, 32, 35, 41, 47] hS (by kernel_rfl) (by kernel_rfl) (by kernel_rfl) hH (listed' := #[true, true, true, true, true, true, true, true, true, true, true, true, true, false, false, false, false]) (fuel := 4) (sy' := ⟨[(2, Pt 3 0), (5, .f (.func 70) [] [.p 3 0]), (6, V (.slice a141 out_140.length c142)), (8, Pt 9 0), (9, I x_134), (15, V (.slice a1 pairs.length c1)), (16, I ((pairs.length : Nat) : Int)), (17, I x_116), (27, I s_.Ops), (28, I x_134), (31, I x_134), (32, I x_145), (35, V (.slice a141 out_140.length c142)), (41, I (IntKind.i64.wrap (0 - r150))), (47, I (IntKind.i64.wrap (0 - r155)))], [(3, (23, [I s_.Ops, I s_.States])), (9, (68, [I ((gi pairs x_116).1), I ((gi pairs x_116).2)]))]⟩) (by kernel_rfl) (by rfl) ?_
                        intro a hS
                        refine only 13 (by kernel_rfl) (by rfl) (lit (E := 3) (col := 0) (T := tI) (vals := [.int .i64 (IntKind.i64.wrap (0 - r150)), .int .i64 (IntKind.i64.wrap (0 - r155))]) (ys := [IntKind.i64.wrap (0 - r150), IntKind.i64.wrap (0 - r155)]) T hS (by kernel_rfl) (by kernel_rfl) (by kernel_rfl) (by kernel_rfl) (by exact ⟨rfl, rfl, trivial⟩) rfl (by kernel_rfl) (by kernel_rfl) (by kernel_rfl) (by kernel_rfl) ?_)
                        intro b157 a w158 χ159 hE h160 hN hS
                        clear hN
                        replace hO := hO.mv hE rfl rfl
                        replace hD := hD.ev hE rfl
                        replace h143 := h143.mv hE rfl rfl
                        replace h144 := h144.mv hE rfl
                        clear hE
                        replace h160 := h160.rs0
                        refine andH (Hold.of hS (bks := [3, 9]) (by kernel_rfl) hD) ?_
                        intro hH
                        refine only 14 (by kernel_rfl) (by rfl) (lit (E := 42) (col := 0) (T := (tSlice tI)) (vals := [.slice (some ⟨b157, 0, none⟩) [IntKind.i64.wrap (0 - r150), IntKind.i64.wrap (0 - r155)].length 2]) (ys := [[IntKind.i64.wrap (0 - r150), IntKind.i64.wrap (0 - r155)]]) T hS (by kernel_rfl) (by kernel_rfl) (by kernel_rfl) (by kernel_rfl) (by exact ⟨⟨(some ⟨b157, 0, none⟩), 2, rfl, h160⟩, trivial⟩) rfl (by kernel_rfl) (by kernel_rfl) (by kernel_rfl) (by kernel_rfl) ?_)
                        intro b161 a w162 χ163 hE h164 hN hS
                        clear hN
                        replace hO := hO.mv hE rfl rfl
                        replace hD := hD.ev hE rfl
                        replace h143 := h143.mv hE rfl rfl
                        replace h144 := h144.mv hE rfl
                        replace h160 := h160.mv hE rfl
                        clear hE
                        replace h164 := h164.rs0
                        refine andH (Hold.of hS (bks := [3, 9]) (by kernel_rfl) hD) ?_
                        intro hH
                        obtain ⟨hq, hm⟩ := hm
                        obtain ⟨news, hN⟩ := h164.src
                        refine only 15 (by kernel_rfl) (by rfl) (append (E := 42) (T := (tSlice tI)) (col := 1005) (xs := out_140) T hS (by kernel_rfl) (by kernel_rfl) (by kernel_rfl) (by kernel_rfl) h143 hN (by kernel_rfl) (by kernel_rfl) (by kernel_rfl) (by kernel_rfl) hq ?_)
                        intro a168 c169 a w165 χ166 hE h167 hS
                        clear hq hN
                        clear h143
                        replace hO := hO.mv hE rfl rfl
                        replace hD := hD.ev hE rfl
                        replace h144 := h144.mv hE rfl
                        replace h160 := h160.mv hE rfl
                        replace h164 := h164.mv hE rfl
                        clear hE
                        refine andH (Hold.of hS (bks := [3, 9]) (by kernel_rfl) hD) ?_
                        intro hH
                        refine take T [16] [3, 9] [2, 5, 6, 8, 9, 15, 16, 17, 27, 28, 31, 32] hS (by kernel_rfl) (by kernel_rfl) (by kernel_rfl) hH (listed' := #[true, true, true, true, true, true, true, true, true, true, true, true, true, true, true, true, true]) (fuel := 0) (sy' := ⟨[(2, Pt 3 0), (5, .f (.func 70) [] [.p 3 0]), (6, V (.slice a168 (out_140 ++ [[IntKind.i64.wrap (0 - r150), IntKind.i64.wrap (0 - r155)]]).length c169)), (8, Pt 9 0), (9, I x_134), (15, V (.slice a1 pairs.length c1)), (16, I ((pairs.length : Nat) : Int)), (17, I x_116), (27, I s_.Ops), (28, I x_134), (31, I x_134), (32, I x_145)], [(3, (23, [I s_.Ops, I s_.States])), (9, (68, [I ((gi pairs x_116).1), I ((gi pairs x_116).2)]))]⟩) (by kernel_rfl) (by rfl) ?_
                        intro a hS
                        refine drawnDone (by kernel_rfl) ?_
                        clear hD hH
                        replace hS := hS.sel [2, 5, 6, 8, 9, 15, 16, 17, 27, 28, 31, 32] [3, 9] (sy' := ⟨[(2, Pt 3 0), (5, .f (.func 70) [] [.p 3 0]), (6, V (.slice a168 (out_140 ++ [[IntKind.i64.wrap (0 - r150), IntKind.i64.wrap (0 - r155)]]).length c169)), (8, Pt 9 0), (9, I x_134), (15, V (.slice a1 pairs.length c1)), (16, I ((pairs.length : Nat) : Int)), (17, I x_116), (27, I s_.Ops), (28, I x_134), (31, I x_134), (32, I x_145)], [(3, (23, [I s_.Ops, I s_.States])), (9, (68, [I ((gi pairs x_116).1), I ((gi pairs x_116).2)]))]⟩) (by kernel_rfl)
                        refine region (endP T hS (sp := []) (ks := [2, 5, 6, 8, 9, 15, 16, 17, 27, 28, 31, 32]) (bs := [3, 9]) (sy' := ⟨[(2, Pt 3 0), (5, .f (.func 70) [] [.p 3 0]), (6, V (.slice a168 (out_140 ++ [[IntKind.i64.wrap (0 - r150), IntKind.i64.wrap (0 - r155)]]).length c169)), (8, Pt 9 0), (9, I x_134), (15, V (.slice a1 pairs.length c1)), (16, I ((pairs.length : Nat) : Int)), (17, I x_116), (27, I s_.Ops), (28, I x_134), (31, I x_134), (32, I (IntKind.i64.wrap (x_145 + 1)))], [(3, (23, [I s_.Ops, I s_.States])), (9, (68, [I ((gi pairs x_116).1), I ((gi pairs x_116).2)]))]⟩) (by kernel_rfl) ?_)
                        intro a hS
                        exact ⟨⟨out_140 ++ [[IntKind.i64.wrap (0 - r150), IntKind.i64.wrap (0 - r155)]], IntKind.i64.wrap (x_145 + 1)⟩, ⟨ρ, _, a168, c169, hm.1, hS.sel [2, 5, 6, 8, 9, 15, 16, 17, 27, 28, 31, 32] [3, 9] (by kernel_rfl), hO, h167, h144⟩, hm.2⟩
                      · replace hm := hm.2 hb
                        refine wexit (by rfl) ?_
                        exact ⟨ρ, _, out_140, a141, c142, hm, hS.sel [2, 5, 6, 8, 15, 16, 17, 27, 28] [3, 9] (by kernel_rfl), hO, h143, h144⟩
                  · rintro a w173 ⟨ρ, χ172, out_135, a136, c137, hm, hS, hO, h138, h139⟩
                    unfold VC42_J3 at hm
                    refine region (endP T hS (sp := []) (ks := [2, 5, 6, 8, 15, 16, 17, 27, 28]) (bs := [3, 9]) (sy' := ⟨[(2, Pt 3 0), (5, .f (.func 70) [] [.p 3 0]), (6, V (.slice a136 out_135.length c137)), (8, Pt 9 0), (15, V (.slice a1 pairs.length c1)), (16, I ((pairs.length : Nat) : Int)), (17, I x_116), (27, I s_.Ops), (28, I (IntKind.i64.wrap (x_134 + 1)))], [(3, (23, [I s_.Ops, I s_.States])), (9, (68, [I ((gi pairs x_116).1), I ((gi pairs x_116).2)]))]⟩) (by kernel_rfl) ?_)
                    intro a hS
                    exact ⟨⟨out_135, IntKind.i64.wrap (x_134 + 1)⟩, ⟨ρ, _, a136, c137, hm.1, hS.sel [2, 5, 6, 8, 15, 16, 17, 27, 28] [3, 9] (by kernel_rfl), hO, h138, h139⟩, hm.2⟩
                · replace hm := hm.2 hb
                  refine wexit (by rfl) ?_
                  exact ⟨ρ, _, out_129, a130, c131, hm, hS.sel [2, 5, 6, 15, 16, 17] [3] (by kernel_rfl), hO, h132, h133⟩
          · rintro a w179 ⟨ρ, χ178, out_117, a118, c119, hm, hS, hO, h120, h121⟩
            unfold VC42_J2 at hm
            refine region (endP T hS (sp := []) (ks := [2, 5, 6, 15, 16, 17]) (bs := [3]) (sy' := ⟨[(2, Pt 3 0), (5, .f (.func 70) [] [.p 3 0]), (6, V (.slice a118 out_117.length c119)), (15, V (.slice a1 pairs.length c1)), (16, I ((pairs.length : Nat) : Int)), (17, I (IntKind.i64.wrap (x_116 + 1)))], [(3, (23, [I s_.Ops, I s_.States]))]⟩) (by kernel_rfl) ?_)
            intro a hS
            exact ⟨⟨out_117, IntKind.i64.wrap (x_116 + 1)⟩, ⟨ρ, _, a118, c119, hm.1, hS.sel [2, 5, 6, 15, 16, 17] [3] (by kernel_rfl), hO, h120, h121⟩, hm.2⟩
        · replace hm := hm.2 hb
          refine wexit (by rfl) ?_
          exact ⟨ρ, _, out_111, a112, c113, hm, hS.sel [6] [] (by kernel_rfl), hO, h114⟩
    · rintro a w183 ⟨ρ, χ182, out_105, a106, c107, hm, hS, hO, h108⟩
      unfold VC42_J1 at hm
      refine regP T hS (sp := []) (ks := [4]) (bs := []) (sy' := ⟨[(4, V (.slice a106 out_105.length c107))], []⟩) (by kernel_rfl) ?_
      intro a hS
      refine wret ?_
      obtain ⟨χ109, hE, hF⟩ := h108.freeze (by decide)
      replace hS := hS.ev hE (xone_box (by kernel_rfl))
      replace hO := hO.mv hE rfl rfl
      have h110 := hF; clear hE hF
      exact fin T hS hO (fun c => c) rfl (r := [.slice a106 out_105.length c107]) (by kernel_rfl) (fun χ' hM hC => ⟨out_105, hm, a106, c107, rfl, h110.m0 hM⟩)
theorem C42 (k21 : S21) (k67 : S67) (k70 : S70) (v : ∀ (s_ : Numbering_Size) (pairs : List (Int × Int)), preCl s_ pairs → VC42 s_ pairs (fun r => r = times_Clauses s_ pairs)) : S42 := by
  intro w χ s_ pairs a1 c1   hp h1
  refine (W42 k21 k67 k70 w χ s_ pairs a1 c1   _ (v s_ pairs hp) h1).mono ?_
  rintro _ _ _ _ ⟨r, rfl, h⟩
  exact h
def S71 : Prop := ∀ (w : World) (χ : Nat → Nat) (ops : Int) (states : Int) (a_ : Int) (b_ : Int), Ret Try.prog 71 #[.int .i64 ops, .int .i64 states, .int .i64 a_, .int .i64 b_] xnone w χ (fun w χ' v => v = .int .i64 (ref31_At ops states a_ b_))
theorem hb71 : hasBody Try.prog 71 = true := by kernel_rfl
/-- replevin/replevinref31.At -/
theorem W71 (w0 : World) (χ0 : Nat → Nat) (ops : Int) (states : Int) (a_ : Int) (b_ : Int) (Q : Int → Prop) (hm : VC71 ops states a_ b_ Q) :
    Ret Try.prog 71 #[.int .i64 ops, .int .i64 states, .int .i64 a_, .int .i64 b_] xnone w0 χ0 (fun w χ' v => ∃ r, Q r ∧ v = .int .i64 r) := by
  unfold VC71 at hm
  refine enter Try.func71 rfl (vals := [.int .i64 ops, .int .i64 states, .int .i64 a_, .int .i64 b_]) (by kernel_rfl) ?_
  intro ρ a hS hO hM
  clear hM
  refine regP T hS (sp := []) (ks := [0, 2, 3]) (bs := []) (sy' := ⟨[(0, I ops), (2, I a_), (3, I b_)], []⟩) (by kernel_rfl) ?_
  intro a hS
  refine regP T hS (sp := []) (ks := [8]) (bs := []) (sy' := ⟨[(8, I (IntKind.i64.wrap ((IntKind.i64.wrap ((IntKind.i64.wrap (a_ * ops)) + b_)) + 1)))], []⟩) (by kernel_rfl) ?_
  intro a hS
  refine wret ?_
  exact fin T hS hO (fun c => c) rfl (r := [.int .i64 (IntKind.i64.wrap ((IntKind.i64.wrap ((IntKind.i64.wrap (a_ * ops)) + b_)) + 1))]) (by kernel_rfl) (fun χ' hM hC => ⟨(IntKind.i64.wrap ((IntKind.i64.wrap ((IntKind.i64.wrap (a_ * ops)) + b_)) + 1)), hm, rfl⟩)
theorem C71 (v : ∀ (ops : Int) (states : Int) (a_ : Int) (b_ : Int), VC71 ops states a_ b_ (fun r => r = ref31_At ops states a_ b_)) : S71 := by
  intro w χ ops states a_ b_    
  refine (W71 w χ ops states a_ b_    _ (v ops states a_ b_)).mono ?_
  rintro _ _ _ _ ⟨r, rfl, h⟩
  exact h
def S43 : Prop := ∀ (w : World) (χ : Nat → Nat) (P : Int) (O : Int) (S : List (Int × Int)) (a1 : Option Addr) (c1 : Nat), preClR P O S → RS tP2 w χ a1 S c1 → Ret Try.prog 43 #[.int .i64 P, .int .i64 O, .slice a1 S.length c1] xnone w χ (fun w χ' v => ∃ (ra1 : Option Addr) (rc1 : Nat), v = .slice ra1 (ref33_Clauses P O S).length rc1 ∧ RS (tSlice tI) w χ' ra1 (ref33_Clauses P O S) rc1)
theorem hb43 : hasBody Try.prog 43 = true := by kernel_rfl
/-- replevin/replevinref33.Clauses -/
theorem W43 (k22 : S22) (k71 : S71) (w0 : World) (χ0 : Nat → Nat) (P : Int) (O : Int) (S : List (Int × Int)) (a1 : Option Addr) (c1 : Nat) (Q : (List (List Int)) → Prop) (hm : VC43 P O S Q) (h1 : RS tP2 w0 χ0 a1 S c1) :
    Ret Try.prog 43 #[.int .i64 P, .int .i64 O, .slice a1 S.length c1] xnone w0 χ0 (fun w χ' v => ∃ r, Q r ∧ ∃ (ra1 : Option Addr) (rc1 : Nat), v = .slice ra1 r.length rc1 ∧ RS (tSlice tI) w χ' ra1 r rc1) := by
  unfold VC43 at hm
  replace hm := hm (h1.sm (by kernel_rfl))
  refine enter Try.func43 rfl (vals := [.int .i64 P, .int .i64 O, .slice a1 S.length c1]) (by kernel_rfl) ?_
  intro ρ a hS hO hM
  replace h1 := h1.m0 hM
  clear hM
  refine regP T hS (sp := []) (ks := [0, 1, 2]) (bs := []) (sy' := ⟨[(0, I P), (1, I O), (2, V (.slice a1 S.length c1))], []⟩) (by kernel_rfl) ?_
  intro a hS
  refine regP T hS (sp := []) (ks := [0, 1, 2, 7]) (bs := []) (sy' := ⟨[(0, I P), (1, I O), (2, V (.slice a1 S.length c1)), (7, V (.slice none 0 0))], []⟩) (by kernel_rfl) ?_
  intro a hS
  refine wcut (fun a w => ∃ (ρ : Nat → Nat) (χ : Nat → Nat) (A_101 : List (List Int)) (a102 : Option Addr) (c103 : Nat), VC43_J1 Q A_101 ∧ St Try.f43.ntmps ⟨[(7, V (.slice a102 A_101.length c103))], []⟩ ρ a w χ ∧ Old w0 χ0 w χ ∧ OS (tSlice tI) 42 w χ 1007 a102 A_101 c103) ?_ ?_
  · refine regP T hS (sp := []) (ks := [0, 1, 2, 7, 8]) (bs := []) (sy' := ⟨[(0, I P), (1, I O), (2, V (.slice a1 S.length c1)), (7, V (.slice none 0 0)), (8, I 0)], []⟩) (by kernel_rfl) ?_
    intro a hS
    refine wblock ?_
    obtain ⟨I1, μ1, hm0, hm⟩ := hm
    refine wloop (σ := (List (List Int)) × Int) (fun s a w => ∃ (ρ : Nat → Nat) (χ : Nat → Nat) (a109 : Option Addr) (c110 : Nat), I1 s.1 s.2 ∧ St Try.f43.ntmps ⟨[(0, I P), (1, I O), (2, V (.slice a1 S.length c1)), (7, V (.slice a109 s.1.length c110)), (8, I s.2)], []⟩ ρ a w χ ∧ Old w0 χ0 w χ ∧ RS tP2 w χ a1 S c1 ∧ OS (tSlice tI) 42 w χ 1007 a109 s.1 c110) (fun s => μ1 s.1 s.2) (⟨[], 0⟩) ?_ ?_
    · exact ⟨ρ, _, none, 0, hm0, hS.sel [0, 1, 2, 7, 8] [] (by kernel_rfl), hO, h1, (OS.nil _ _ _ _ _)⟩
    · rintro ⟨A_108, r_112⟩ a w188 ⟨ρ, χ187, a109, c110, hI, hS, hO, h107, h111⟩
      replace hm := hm A_108 r_112 hI
      clear hI hm0
      refine wseq ?_
      refine wcut (fun a w => ∃ (ρ : Nat → Nat) (χ : Nat → Nat) (A_114 : List (List Int)) (x_118 : Bool) (a115 : Option Addr) (c116 : Nat), VC43_J2 P O S Q I1 μ1 A_108 r_112 A_114 x_118 ∧ St Try.f43.ntmps ⟨[(0, I P), (1, I O), (2, V (.slice a1 S.length c1)), (7, V (.slice a115 A_114.length c116)), (8, I r_112), (22, B x_118)], []⟩ ρ a w χ ∧ Old w0 χ0 w χ ∧ RS tP2 w χ a1 S c1 ∧ OS (tSlice tI) 42 w χ 1007 a115 A_114 c116) ?_ ?_
      · refine region ?_
        refine opsP T hS 5 (sp := []) (ks := [0, 1, 2, 7, 8, 17]) (bs := []) (sy' := ⟨[(0, I P), (1, I O), (2, V (.slice a1 S.length c1)), (7, V (.slice a109 A_108.length c110)), (8, I r_112), (17, B (decide (r_112 < ((S.length : Nat) : Int))))], []⟩) (by kernel_rfl) ?_
        intro a hS
        rcases Bool.eq_false_or_eq_true (decide (r_112 < ((S.length : Nat) : Int))) with hb | hb
        · replace hS := hS.lit (t := 17) (by kernel_rfl) hb
          replace hm := hm.1 hb
          refine opsP T hS 2 (sp := []) (ks := [0, 1, 2, 7, 8, 17, 18, 19]) (bs := []) (sy' := ⟨[(0, I P), (1, I O), (2, V (.slice a1 S.length c1)), (7, V (.slice a109 A_108.length c110)), (8, I r_112), (17, B true), (18, I P), (19, I O)], []⟩) (by kernel_rfl) ?_
          intro a hS
          refine op1 (call hS (by kernel_rfl) (by kernel_rfl) hb22 (by kernel_rfl) (fun _ _ => rfl) (k22 _ _ P O) ?_)
          intro v181 a w182 χ183 hE hp hS
          replace hO := hO.mv hE rfl rfl
          replace h107 := h107.mv hE rfl
          replace h111 := h111.mv hE rfl rfl
          clear hE
          obtain ⟨r184, hr⟩ : ∃ r, ref31_Check P O = r := ⟨_, rfl⟩
          replace hm := hm r184 hr
          rw [hr] at hp
          clear hr
          subst hp
          refine endP T hS (sp := []) (ks := [0, 1, 2, 7, 8, 18, 19, 20, 21, 22]) (bs := []) (sy' := ⟨[(0, I P), (1, I O), (2, V (.slice a1 S.length c1)), (7, V (.slice a109 A_108.length c110)), (8, I r_112), (18, I P), (19, I O), (20, I r184), (21, B (r184 == 0)), (22, B (r184 == 0))], []⟩) (by kernel_rfl) ?_
          intro a hS
          exact ⟨ρ, _, A_108, (r184 == 0), a109, c110, hm, hS.sel [0, 1, 2, 7, 8, 22] [] (by kernel_rfl), hO, h107, h111⟩
        · replace hS := hS.lit (t := 17) (by kernel_rfl) hb
          replace hm := hm.2 hb
          refine endP T hS (sp := []) (ks := [0, 1, 2, 7, 8, 22]) (bs := []) (sy' := ⟨[(0, I P), (1, I O), (2, V (.slice a1 S.length c1)), (7, V (.slice a109 A_108.length c110)), (8, I r_112), (22, B false)], []⟩) (by kernel_rfl) ?_
          intro a hS
          exact ⟨ρ, _, A_108, false, a109, c110, hm, hS.sel [0, 1, 2, 7, 8, 22] [] (by kernel_rfl), hO, h107, h111⟩
      · rintro a w186 ⟨ρ, χ185, A_114, x_118, a115, c116, hm, hS, hO, h113, h117⟩
        unfold VC43_J2 at hm
        refine wcond hS (b := x_118) (by kernel_rfl) (fun hb => ?_) (fun hb => ?_)
        · replace hm := hm.1 hb
          refine wskip ?_
          refine wcut (fun a w => ∃ (ρ : Nat → Nat) (χ : Nat → Nat) (A_120 : List (List Int)) (a121 : Option Addr) (c122 : Nat), VC43_J3 I1 μ1 A_108 r_112 A_120 ∧ St Try.f43.ntmps ⟨[(0, I P), (1, I O), (2, V (.slice a1 S.length c1)), (7, V (.slice a121 A_120.length c122)), (8, I r_112)], []⟩ ρ a w χ ∧ Old w0 χ0 w χ ∧ RS tP2 w χ a1 S c1 ∧ OS (tSlice tI) 42 w χ 1007 a121 A_120 c122) ?_ ?_
          · refine wblock ?_
            refine drawnS [] mixed hS ?_
            intro w124 hS hE hD hH
            replace hO := hO.mv hE rfl rfl
            replace h113 := h113.mv hE rfl
            replace h117 := h117.mv hE rfl rfl
            clear hE
            refine take T [0, 1, 5, 6] [] [0, 1, 2, 7, 8, 25, 26, 30, 31] hS (by kernel_rfl) (by kernel_rfl) (by kernel_rfl) hH (listed' := #[true, true, false, false, false, true, true, false, false, false, false, false]) (fuel := 8) (sy' := ⟨[(0, I P), (1, I O), (2, V (.slice a1 S.length c1)), (7, V (.slice a115 A_114.length c116)), (8, I r_112), (25, V (.slice a1 S.length c1)), (26, I r_112), (30, V (.slice a1 S.length c1)), (31, I r_112)], []⟩) (by kernel_rfl) (by rfl) ?_
            intro a hS
            obtain ⟨hq, hm⟩ := hm
            refine dindex (e := 68) (k := .i64) T 2 hS (by kernel_rfl) (by kernel_rfl) (by kernel_rfl) (by rfl) (by kernel_rfl) hH (by kernel_rfl) (by kernel_rfl) h113 (by kernel_rfl) (by kernel_rfl) hq.1 hq.2 ?_
            intro A125 a h126 hS
            clear hq
            have h126b := h126.here
            refine darrA (m := 2) (e := 3) (esz := 1) (k0 := .i64) (TF := tI) (z := (gi S r_112).1) (j := 0) 3 T hS (by kernel_rfl) (by kernel_rfl) (by kernel_rfl) (by rfl) (by kernel_rfl) hH (by kernel_rfl) (by kernel_rfl) h126 (by kernel_rfl) (by kernel_rfl) (by kernel_rfl) (by kernel_rfl) (fun cs h => by cases h; rfl) ?_
            intro A127 a h128 hbl hS
            have h128b := h126b
            rw [← hbl] at h128b
            clear hbl
            refine dload1 T 4 hS (by kernel_rfl) (by kernel_rfl) (by kernel_rfl) (by rfl) (by kernel_rfl) hH (by kernel_rfl) h128 h128b rfl (by kernel_rfl) ?_
            intro v129 a hv hS
            cases hv
            refine take T [10] [] [0, 1, 2, 7, 8, 9, 30, 31] hS (by kernel_rfl) (by kernel_rfl) (by kernel_rfl) hH (listed' := #[true, true, true, true, true, true, true, false, false, false, true, false]) (fuel := 4) (sy' := ⟨[(0, I P), (1, I O), (2, V (.slice a1 S.length c1)), (7, V (.slice a115 A_114.length c116)), (8, I r_112), (9, I ((gi S r_112).1)), (30, V (.slice a1 S.length c1)), (31, I r_112)], []⟩) (by kernel_rfl) (by rfl) ?_
            intro a hS
            obtain ⟨hq, hm⟩ := hm
            refine dindex (e := 68) (k := .i64) T 7 hS (by kernel_rfl) (by kernel_rfl) (by kernel_rfl) (by rfl) (by kernel_rfl) hH (by kernel_rfl) (by kernel_rfl) h113 (by kernel_rfl) (by kernel_rfl) hq.1 hq.2 ?_
            intro A130 a h131 hS
            clear hq
            have h131b := h131.here
            refine darrA (m := 2) (e := 3) (esz := 1) (k0 := .i64) (TF := tI) (z := (gi S r_112).2) (j := 1) 8 T hS (by kernel_rfl) (by kernel_rfl) (by kernel_rfl) (by rfl) (by kernel_rfl) hH (by kernel_rfl) (by kernel_rfl) h131 (by kernel_rfl) (by kernel_rfl) (by kernel_rfl) (by kernel_rfl) (fun cs h => by cases h; rfl) ?_
            intro A132 a h133 hbl hS
            have h133b := h131b
            rw [← hbl] at h133b
            clear hbl
            refine dload1 T 9 hS (by kernel_rfl) (by kernel_rfl) (by kernel_rfl) (by rfl) (by kernel_rfl) hH (by kernel_rfl) h133 h133b rfl (by kernel_rfl) ?_
            intro v134 a hv hS
            cases hv
            refine take T [11] [] [0, 1, 2, 7, 8, 9, 10] hS (by kernel_rfl) (by kernel_rfl) (by kernel_rfl) hH (listed' := #[true, true, true, true, true, true, true, true, true, true, true, true]) (fuel := 0) (sy' := ⟨[(0, I P), (1, I O), (2, V (.slice a1 S.length c1)), (7, V (.slice a115 A_114.length c116)), (8, I r_112), (9, I ((gi S r_112).1)), (10, I ((gi S r_112).2))], []⟩) (by kernel_rfl) (by rfl) ?_
            intro a hS
            refine drawnDone (by kernel_rfl) ?_
            clear hD hH
            replace hS := hS.sel [0, 1, 2, 7, 8, 9, 10] [] (sy' := ⟨[(0, I P), (1, I O), (2, V (.slice a1 S.length c1)), (7, V (.slice a115 A_114.length c116)), (8, I r_112), (9, I ((gi S r_112).1)), (10, I ((gi S r_112).2))], []⟩) (by kernel_rfl)
            refine wseq ?_
            refine regP T hS (sp := [37, 41, 46, 51]) (ks := [0, 1, 2, 7, 8, 9, 10, 55]) (bs := []) (sy' := ⟨[(0, I P), (1, I O), (2, V (.slice a1 S.length c1)), (7, V (.slice a115 A_114.length c116)), (8, I r_112), (9, I ((gi S r_112).1)), (10, I ((gi S r_112).2)), (55, B (((((decide (((gi S r_112).1) < 0)) || (decide (((gi S r_112).2) < 0))) || (decide (((gi S r_112).1) ≥ P))) || (decide (((gi S r_112).2) ≥ P))) || (((gi S r_112).1) == ((gi S r_112).2))))], []⟩) (by kernel_rfl) ?_
            intro a hS
            refine wcond hS (b := (((((decide (((gi S r_112).1) < 0)) || (decide (((gi S r_112).2) < 0))) || (decide (((gi S r_112).1) ≥ P))) || (decide (((gi S r_112).2) ≥ P))) || (((gi S r_112).1) == ((gi S r_112).2)))) (by kernel_rfl) (fun hb => ?_) (fun hb => ?_)
            · replace hm := hm.1 hb
              refine wexit (by rfl) ?_
              exact ⟨ρ, _, A_114, a115, c116, hm, hS.sel [0, 1, 2, 7, 8] [] (by kernel_rfl), hO, h113, h117⟩
            · replace hm := hm.2 hb
              refine wskip ?_
              refine regP T hS (sp := []) (ks := [0, 1, 2, 7, 8, 9, 10, 11]) (bs := []) (sy' := ⟨[(0, I P), (1, I O), (2, V (.slice a1 S.length c1)), (7, V (.slice a115 A_114.length c116)), (8, I r_112), (9, I ((gi S r_112).1)), (10, I ((gi S r_112).2)), (11, I 0)], []⟩) (by kernel_rfl) ?_
              intro a hS
              refine wblock ?_
              obtain ⟨I2, μ2, hm0, hm⟩ := hm
              refine wloop (σ := (List (List Int)) × Int) (fun s a w => ∃ (ρ : Nat → Nat) (χ : Nat → Nat) (a137 : Option Addr) (c138 : Nat), I2 s.1 s.2 ∧ St Try.f43.ntmps ⟨[(0, I P), (1, I O), (2, V (.slice a1 S.length c1)), (7, V (.slice a137 s.1.length c138)), (8, I r_112), (9, I ((gi S r_112).1)), (10, I ((gi S r_112).2)), (11, I s.2)], []⟩ ρ a w χ ∧ Old w0 χ0 w χ ∧ RS tP2 w χ a1 S c1 ∧ OS (tSlice tI) 42 w χ 1007 a137 s.1 c138) (fun s => μ2 s.1 s.2) (⟨A_114, 0⟩) ?_ ?_
              · exact ⟨ρ, _, a115, c116, hm0, hS.sel [0, 1, 2, 7, 8, 9, 10, 11] [] (by kernel_rfl), hO, h113, h117⟩
              · rintro ⟨A_136, y_140⟩ a w178 ⟨ρ, χ177, a137, c138, hI, hS, hO, h135, h139⟩
                replace hm := hm A_136 y_140 hI
                clear hI hm0
                refine wseq ?_
                refine regP T hS (sp := []) (ks := [0, 1, 2, 7, 8, 9, 10, 11, 58]) (bs := []) (sy' := ⟨[(0, I P), (1, I O), (2, V (.slice a1 S.length c1)), (7, V (.slice a137 A_136.length c138)), (8, I r_112), (9, I ((gi S r_112).1)), (10, I ((gi S r_112).2)), (11, I y_140), (58, B (decide (y_140 < P)))], []⟩) (by kernel_rfl) ?_
                intro a hS
                refine wcond hS (b := decide (y_140 < P)) (by kernel_rfl) (fun hb => ?_) (fun hb => ?_)
                · replace hm := hm.1 hb
                  refine wskip ?_
                  refine wcut (fun a w => ∃ (ρ : Nat → Nat) (χ : Nat → Nat) (A_142 : List (List Int)) (a143 : Option Addr) (c144 : Nat), VC43_J4 I2 μ2 A_136 y_140 A_142 ∧ St Try.f43.ntmps ⟨[(0, I P), (1, I O), (2, V (.slice a1 S.length c1)), (7, V (.slice a143 A_142.length c144)), (8, I r_112), (9, I ((gi S r_112).1)), (10, I ((gi S r_112).2)), (11, I y_140)], []⟩ ρ a w χ ∧ Old w0 χ0 w χ ∧ RS tP2 w χ a1 S c1 ∧ OS (tSlice tI) 42 w χ 1007 a143 A_142 c144) ?_ ?_
                  · refine wblock ?_
                    refine regP T hS (sp := []) (ks := [0, 1, 2, 7, 8, 9, 10, 11, 12]) (bs := []) (sy' := ⟨[(0, I P), (1, I O), (2, V (.slice a1 S.length c1)), (7, V (.slice a137 A_136.length c138)), (8, I r_112), (9, I ((gi S r_112).1)), (10, I ((gi S r_112).2)), (11, I y_140), (12, I 0)], []⟩) (by kernel_rfl) ?_
                    intro a hS
                    refine wblock ?_
                    obtain ⟨I3, μ3, hm0, hm⟩ := hm
                    refine wloop (σ := (List (List Int)) × Int) (fun s a w => ∃ (ρ : Nat → Nat) (χ : Nat → Nat) (a148 : Option Addr) (c149 : Nat), I3 s.1 s.2 ∧ St Try.f43.ntmps ⟨[(0, I P), (1, I O), (2, V (.slice a1 S.length c1)), (7, V (.slice a148 s.1.length c149)), (8, I r_112), (9, I ((gi S r_112).1)), (10, I ((gi S r_112).2)), (11, I y_140), (12, I s.2)], []⟩ ρ a w χ ∧ Old w0 χ0 w χ ∧ RS tP2 w χ a1 S c1 ∧ OS (tSlice tI) 42 w χ 1007 a148 s.1 c149) (fun s => μ3 s.1 s.2) (⟨A_136, 0⟩) ?_ ?_
                    · exact ⟨ρ, _, a137, c138, hm0, hS.sel [0, 1, 2, 7, 8, 9, 10, 11, 12] [] (by kernel_rfl), hO, h135, h139⟩
                    · rintro ⟨A_147, x_151⟩ a w174 ⟨ρ, χ173, a148, c149, hI, hS, hO, h146, h150⟩
                      replace hm := hm A_147 x_151 hI
                      clear hI hm0
                      refine wseq ?_
                      refine regP T hS (sp := []) (ks := [0, 1, 2, 7, 8, 9, 10, 11, 12, 63]) (bs := []) (sy' := ⟨[(0, I P), (1, I O), (2, V (.slice a1 S.length c1)), (7, V (.slice a148 A_147.length c149)), (8, I r_112), (9, I ((gi S r_112).1)), (10, I ((gi S r_112).2)), (11, I y_140), (12, I x_151), (63, B (decide (x_151 < y_140)))], []⟩) (by kernel_rfl) ?_
                      intro a hS
                      refine wcond hS (b := decide (x_151 < y_140)) (by kernel_rfl) (fun hb => ?_) (fun hb => ?_)
                      · replace hm := hm.1 hb
                        refine wskip ?_
                        refine wseq ?_
                        refine wblock ?_
                        refine region ?_
                        refine opsP T hS 5 (sp := []) (ks := [0, 1, 2, 7, 8, 9, 10, 11, 12, 66, 67, 68, 69, 70]) (bs := []) (sy' := ⟨[(0, I P), (1, I O), (2, V (.slice a1 S.length c1)), (7, V (.slice a148 A_147.length c149)), (8, I r_112), (9, I ((gi S r_112).1)), (10, I ((gi S r_112).2)), (11, I y_140), (12, I x_151), (66, V (.slice a148 A_147.length c149)), (67, I P), (68, I O), (69, I ((gi S r_112).1)), (70, I y_140)], []⟩) (by kernel_rfl) ?_
                        intro a hS
                        refine op1 (call hS (by kernel_rfl) (by kernel_rfl) hb71 (by kernel_rfl) (fun _ _ => rfl) (k71 _ _ P O ((gi S r_112).1) y_140) ?_)
                        intro v152 a w153 χ154 hE hp hS
                        replace hO := hO.mv hE rfl rfl
                        replace h146 := h146.mv hE rfl
                        replace h150 := h150.mv hE rfl rfl
                        clear hE
                        obtain ⟨r155, hr⟩ : ∃ r, ref31_At P O ((gi S r_112).1) y_140 = r := ⟨_, rfl⟩
                        replace hm := hm r155 hr
                        rw [hr] at hp
                        clear hr
                        subst hp
                        refine opsP T hS 5 (sp := []) (ks := [0, 1, 2, 7, 8, 9, 10, 11, 12, 66, 72, 73, 74, 75, 76]) (bs := []) (sy' := ⟨[(0, I P), (1, I O), (2, V (.slice a1 S.length c1)), (7, V (.slice a148 A_147.length c149)), (8, I r_112), (9, I ((gi S r_112).1)), (10, I ((gi S r_112).2)), (11, I y_140), (12, I x_151), (66, V (.slice a148 A_147.length c149)), (72, I (IntKind.i64.wrap (0 - r155))), (73, I P), (74, I O), (75, I ((gi S r_112).2)), (76, I x_151)], []⟩) (by kernel_rfl) ?_
                        intro a hS
                        refine op1 (call hS (by kernel_rfl) (by kernel_rfl) hb71 (by kernel_rfl) (fun _ _ => rfl) (k71 _ _ P O ((gi S r_112).2) x_151) ?_)
                        intro v156 a w157 χ158 hE hp hS
                        replace hO := hO.mv hE rfl rfl
                        replace h146 := h146.mv hE rfl
                        replace h150 := h150.mv hE rfl rfl
                        clear hE
                        obtain ⟨r159, hr⟩ : ∃ r, ref31_At P O ((gi S r_112).2) x_151 = r := ⟨_, rfl⟩
                        replace hm := hm r159 hr
                        rw [hr] at hp
                        clear hr
                        subst hp
                        refine opsP T hS 1 (sp := []) (ks := [0, 1, 2, 7, 8, 9, 10, 11, 12, 66, 72, 78]) (bs := []) (sy' := ⟨[(0, I P), (1, I O), (2, V (.slice a1 S.length c1)), (7, V (.slice a148 A_147.length c149)), (8, I r_112), (9, I ((gi S r_112).1)), (10, I ((gi S r_112).2)), (11, I y_140), (12, I x_151), (66, V (.slice a148 A_147.length c149)), (72, I (IntKind.i64.wrap (0 - r155))), (78, I (IntKind.i64.wrap (0 - r159)))], []⟩) (by kernel_rfl) ?_
                        intro a hS
                        refine op1 (lit (E := 3) (col := 0) (T := tI) (vals := [.int .i64 (IntKind.i64.wrap (0 - r155)), .int .i64 (IntKind.i64.wrap (0 - r159))]) (ys := [IntKind.i64.wrap (0 - r155), IntKind.i64.wrap (0 - r159)]) T hS (by kernel_rfl) (by kernel_rfl) (by kernel_rfl) (by kernel_rfl) (by exact ⟨rfl, rfl, trivial⟩) rfl (by kernel_rfl) (by kernel_rfl) (by kernel_rfl) (by kernel_rfl) ?_)
                        intro b160 a w161 χ162 hE h163 hN hS
                        clear hN
                        replace hO := hO.mv hE rfl rfl
                        replace h146 := h146.mv hE rfl
                        replace h150 := h150.mv hE rfl rfl
                        clear hE
                        replace h163 := h163.rs0
                        refine op1 (lit (E := 42) (col := 0) (T := (tSlice tI)) (vals := [.slice (some ⟨b160, 0, none⟩) [IntKind.i64.wrap (0 - r155), IntKind.i64.wrap (0 - r159)].length 2]) (ys := [[IntKind.i64.wrap (0 - r155), IntKind.i64.wrap (0 - r159)]]) T hS (by kernel_rfl) (by kernel_rfl) (by kernel_rfl) (by kernel_rfl) (by exact ⟨⟨(some ⟨b160, 0, none⟩), 2, rfl, h163⟩, trivial⟩) rfl (by kernel_rfl) (by kernel_rfl) (by kernel_rfl) (by kernel_rfl) ?_)
                        intro b164 a w165 χ166 hE h167 hN hS
                        clear hN
                        replace hO := hO.mv hE rfl rfl
                        replace h146 := h146.mv hE rfl
                        replace h150 := h150.mv hE rfl rfl
                        replace h163 := h163.mv hE rfl
                        clear hE
                        replace h167 := h167.rs0
                        obtain ⟨hq, hm⟩ := hm
                        obtain ⟨news, hN⟩ := h167.src
                        refine op1 (append (E := 42) (T := (tSlice tI)) (col := 1007) (xs := A_147) T hS (by kernel_rfl) (by kernel_rfl) (by kernel_rfl) (by kernel_rfl) h150 hN (by kernel_rfl) (by kernel_rfl) (by kernel_rfl) (by kernel_rfl) hq ?_)
                        intro a171 c172 a w168 χ169 hE h170 hS
                        clear hq hN
                        clear h150
                        replace hO := hO.mv hE rfl rfl
                        replace h146 := h146.mv hE rfl
                        replace h163 := h163.mv hE rfl
                        replace h167 := h167.mv hE rfl
                        clear hE
                        refine endP T hS (sp := []) (ks := [0, 1, 2, 7, 8, 9, 10, 11, 12]) (bs := []) (sy' := ⟨[(0, I P), (1, I O), (2, V (.slice a1 S.length c1)), (7, V (.slice a171 (A_147 ++ [[IntKind.i64.wrap (0 - r155), IntKind.i64.wrap (0 - r159)]]).length c172)), (8, I r_112), (9, I ((gi S r_112).1)), (10, I ((gi S r_112).2)), (11, I y_140), (12, I x_151)], []⟩) (by kernel_rfl) ?_
                        intro a hS
                        refine region (endP T hS (sp := []) (ks := [0, 1, 2, 7, 8, 9, 10, 11, 12]) (bs := []) (sy' := ⟨[(0, I P), (1, I O), (2, V (.slice a1 S.length c1)), (7, V (.slice a171 (A_147 ++ [[IntKind.i64.wrap (0 - r155), IntKind.i64.wrap (0 - r159)]]).length c172)), (8, I r_112), (9, I ((gi S r_112).1)), (10, I ((gi S r_112).2)), (11, I y_140), (12, I (IntKind.i64.wrap (x_151 + 1)))], []⟩) (by kernel_rfl) ?_)
                        intro a hS
                        exact ⟨⟨A_147 ++ [[IntKind.i64.wrap (0 - r155), IntKind.i64.wrap (0 - r159)]], IntKind.i64.wrap (x_151 + 1)⟩, ⟨ρ, _, a171, c172, hm.1, hS.sel [0, 1, 2, 7, 8, 9, 10, 11, 12] [] (by kernel_rfl), hO, h146, h170⟩, hm.2⟩
                      · replace hm := hm.2 hb
                        refine wexit (by rfl) ?_
                        exact ⟨ρ, _, A_147, a148, c149, hm, hS.sel [0, 1, 2, 7, 8, 9, 10, 11] [] (by kernel_rfl), hO, h146, h150⟩
                  · rintro a w176 ⟨ρ, χ175, A_142, a143, c144, hm, hS, hO, h141, h145⟩
                    unfold VC43_J4 at hm
                    refine region (endP T hS (sp := []) (ks := [0, 1, 2, 7, 8, 9, 10, 11]) (bs := []) (sy' := ⟨[(0, I P), (1, I O), (2, V (.slice a1 S.length c1)), (7, V (.slice a143 A_142.length c144)), (8, I r_112), (9, I ((gi S r_112).1)), (10, I ((gi S r_112).2)), (11, I (IntKind.i64.wrap (y_140 + 1)))], []⟩) (by kernel_rfl) ?_)
                    intro a hS
                    exact ⟨⟨A_142, IntKind.i64.wrap (y_140 + 1)⟩, ⟨ρ, _, a143, c144, hm.1, hS.sel [0, 1, 2, 7, 8, 9, 10, 11] [] (by kernel_rfl), hO, h141, h145⟩, hm.2⟩
                · replace hm := hm.2 hb
                  refine wexit (by rfl) ?_
                  exact ⟨ρ, _, A_136, a137, c138, hm, hS.sel [0, 1, 2, 7, 8] [] (by kernel_rfl), hO, h135, h139⟩
          · rintro a w180 ⟨ρ, χ179, A_120, a121, c122, hm, hS, hO, h119, h123⟩
            unfold VC43_J3 at hm
            refine region (endP T hS (sp := []) (ks := [0, 1, 2, 7, 8]) (bs := []) (sy' := ⟨[(0, I P), (1, I O), (2, V (.slice a1 S.length c1)), (7, V (.slice a121 A_120.length c122)), (8, I (IntKind.i64.wrap (r_112 + 1)))], []⟩) (by kernel_rfl) ?_)
            intro a hS
            exact ⟨⟨A_120, IntKind.i64.wrap (r_112 + 1)⟩, ⟨ρ, _, a121, c122, hm.1, hS.sel [0, 1, 2, 7, 8] [] (by kernel_rfl), hO, h119, h123⟩, hm.2⟩
        · replace hm := hm.2 hb
          refine wexit (by rfl) ?_
          exact ⟨ρ, _, A_114, a115, c116, hm, hS.sel [7] [] (by kernel_rfl), hO, h117⟩
  · rintro a w190 ⟨ρ, χ189, A_101, a102, c103, hm, hS, hO, h104⟩
    unfold VC43_J1 at hm
    refine regP T hS (sp := []) (ks := [6]) (bs := []) (sy' := ⟨[(6, V (.slice a102 A_101.length c103))], []⟩) (by kernel_rfl) ?_
    intro a hS
    refine wret ?_
    obtain ⟨χ105, hE, hF⟩ := h104.freeze (by decide)
    replace hS := hS.ev hE (xone_box (by kernel_rfl))
    replace hO := hO.mv hE rfl rfl
    have h106 := hF; clear hE hF
    exact fin T hS hO (fun c => c) rfl (r := [.slice a102 A_101.length c103]) (by kernel_rfl) (fun χ' hM hC => ⟨A_101, hm, a102, c103, rfl, h106.m0 hM⟩)
theorem C43 (k22 : S22) (k71 : S71) (v : ∀ (P : Int) (O : Int) (S : List (Int × Int)), preClR P O S → VC43 P O S (fun r => r = ref33_Clauses P O S)) : S43 := by
  intro w χ P O S a1 c1   hp h1
  refine (W43 k22 k71 w χ P O S a1 c1   _ (v P O S hp) h1).mono ?_
  rintro _ _ _ _ ⟨r, rfl, h⟩
  exact h
def S34 : Prop := ∀ (w : World) (χ : Nat → Nat) (a_ : List Int) (b_ : List Int) (a1 : Option Addr) (c1 : Nat) (a2 : Option Addr) (c2 : Nat), RS tI w χ a1 a_ c1 → RS tI w χ a2 b_ c2 → Ret Try.prog 34 #[.slice a1 a_.length c1, .slice a2 b_.length c2] xnone w χ (fun w χ' v => v = .bool (ref01_SameInts a_ b_))
theorem hb34 : hasBody Try.prog 34 = true := by kernel_rfl
/-- replevin/replevinref01.SameInts -/
theorem W34 (w0 : World) (χ0 : Nat → Nat) (a_ : List Int) (b_ : List Int) (a1 : Option Addr) (c1 : Nat) (a2 : Option Addr) (c2 : Nat) (Q : Bool → Prop) (hm : VC34 a_ b_ Q) (h1 : RS tI w0 χ0 a1 a_ c1) (h2 : RS tI w0 χ0 a2 b_ c2) :
    Ret Try.prog 34 #[.slice a1 a_.length c1, .slice a2 b_.length c2] xnone w0 χ0 (fun w χ' v => ∃ r, Q r ∧ v = .bool r) := by
  unfold VC34 at hm
  replace hm := hm (h1.sm (by kernel_rfl))
  replace hm := hm (h2.sm (by kernel_rfl))
  refine enter Try.func34 rfl (vals := [.slice a1 a_.length c1, .slice a2 b_.length c2]) (by kernel_rfl) ?_
  intro ρ a hS hO hM
  replace h1 := h1.m0 hM
  replace h2 := h2.m0 hM
  clear hM
  refine regP T hS (sp := []) (ks := [0, 1]) (bs := []) (sy' := ⟨[(0, V (.slice a1 a_.length c1)), (1, V (.slice a2 b_.length c2))], []⟩) (by kernel_rfl) ?_
  intro a hS
  refine wseq ?_
  refine regP T hS (sp := []) (ks := [0, 1, 10]) (bs := []) (sy' := ⟨[(0, V (.slice a1 a_.length c1)), (1, V (.slice a2 b_.length c2)), (10, B (((a_.length : Nat) : Int) != ((b_.length : Nat) : Int)))], []⟩) (by kernel_rfl) ?_
  intro a hS
  refine wcond hS (b := (((a_.length : Nat) : Int) != ((b_.length : Nat) : Int))) (by kernel_rfl) (fun hb => ?_) (fun hb => ?_)
  · replace hm := hm.1 hb
    refine regP T hS (sp := []) (ks := [4]) (bs := []) (sy' := ⟨[(4, B false)], []⟩) (by kernel_rfl) ?_
    intro a hS
    refine wret ?_
    exact fin T hS hO (fun c => c) rfl (r := [.bool false]) (by kernel_rfl) (fun χ' hM hC => ⟨false, hm, rfl⟩)
  · replace hm := hm.2 hb
    refine wskip ?_
    refine wcut (fun a w => ∃ (ρ : Nat → Nat) (χ : Nat → Nat), VC34_J1 Q ∧ St Try.f34.ntmps ⟨[], []⟩ ρ a w χ ∧ Old w0 χ0 w χ) ?_ ?_
    · refine regP T hS (sp := []) (ks := [0, 1, 5]) (bs := []) (sy' := ⟨[(0, V (.slice a1 a_.length c1)), (1, V (.slice a2 b_.length c2)), (5, I 0)], []⟩) (by kernel_rfl) ?_
      intro a hS
      refine wblock ?_
      obtain ⟨I1, μ1, hm0, hm⟩ := hm
      refine wloop (σ := Int) (fun s a w => ∃ (ρ : Nat → Nat) (χ : Nat → Nat), I1 s ∧ St Try.f34.ntmps ⟨[(0, V (.slice a1 a_.length c1)), (1, V (.slice a2 b_.length c2)), (5, I s)], []⟩ ρ a w χ ∧ Old w0 χ0 w χ ∧ RS tI w χ a1 a_ c1 ∧ RS tI w χ a2 b_ c2) (fun s => μ1 s) (0) ?_ ?_
      · exact ⟨ρ, _, hm0, hS.sel [0, 1, 5] [] (by kernel_rfl), hO, h1, h2⟩
      · rintro i_103 a w112 ⟨ρ, χ111, hI, hS, hO, h101, h102⟩
        replace hm := hm i_103 hI
        clear hI hm0
        refine wseq ?_
        refine regP T hS (sp := []) (ks := [0, 1, 5, 14]) (bs := []) (sy' := ⟨[(0, V (.slice a1 a_.length c1)), (1, V (.slice a2 b_.length c2)), (5, I i_103), (14, B (decide (i_103 < ((a_.length : Nat) : Int))))], []⟩) (by kernel_rfl) ?_
        intro a hS
        refine wcond hS (b := decide (i_103 < ((a_.length : Nat) : Int))) (by kernel_rfl) (fun hb => ?_) (fun hb => ?_)
        · replace hm := hm.1 hb
          refine wskip ?_
          refine wseq ?_
          refine wblock ?_
          refine drawnS [] mixed hS ?_
          intro w104 hS hE hD hH
          replace hO := hO.mv hE rfl rfl
          replace h101 := h101.mv hE rfl
          replace h102 := h102.mv hE rfl
          clear hE
          refine take T [0, 1, 4, 5] [] [0, 1, 5, 17, 18, 21, 22] hS (by kernel_rfl) (by kernel_rfl) (by kernel_rfl) hH (listed' := #[true, true, false, false, true, true, false, false, false]) (fuel := 5) (sy' := ⟨[(0, V (.slice a1 a_.length c1)), (1, V (.slice a2 b_.length c2)), (5, I i_103), (17, V (.slice a1 a_.length c1)), (18, I i_103), (21, V (.slice a2 b_.length c2)), (22, I i_103)], []⟩) (by kernel_rfl) (by rfl) ?_
          intro a hS
          obtain ⟨hq, hm⟩ := hm
          refine dindex (e := 3) (k := .i64) T 2 hS (by kernel_rfl) (by kernel_rfl) (by kernel_rfl) (by rfl) (by kernel_rfl) hH (by kernel_rfl) (by kernel_rfl) h101 (by kernel_rfl) (by kernel_rfl) hq.1 hq.2 ?_
          intro A105 a h106 hS
          clear hq
          have h106b := h106.here
          refine dload1 T 3 hS (by kernel_rfl) (by kernel_rfl) (by kernel_rfl) (by rfl) (by kernel_rfl) hH (by kernel_rfl) h106 h106b rfl (by kernel_rfl) ?_
          intro v107 a hv hS
          cases hv
          obtain ⟨hq, hm⟩ := hm
          refine dindex (e := 3) (k := .i64) T 6 hS (by kernel_rfl) (by kernel_rfl) (by kernel_rfl) (by rfl) (by kernel_rfl) hH (by kernel_rfl) (by kernel_rfl) h102 (by kernel_rfl) (by kernel_rfl) hq.1 hq.2 ?_
          intro A108 a h109 hS
          clear hq
          have h109b := h109.here
          refine dload1 T 7 hS (by kernel_rfl) (by kernel_rfl) (by kernel_rfl) (by rfl) (by kernel_rfl) hH (by kernel_rfl) h109 h109b rfl (by kernel_rfl) ?_
          intro v110 a hv hS
          cases hv
          refine take T [8] [] [0, 1, 5, 25] hS (by kernel_rfl) (by kernel_rfl) (by kernel_rfl) hH (listed' := #[true, true, true, true, true, true, true, true, true]) (fuel := 0) (sy' := ⟨[(0, V (.slice a1 a_.length c1)), (1, V (.slice a2 b_.length c2)), (5, I i_103), (25, B ((gi a_ i_103) != (gi b_ i_103)))], []⟩) (by kernel_rfl) (by rfl) ?_
          intro a hS
          refine drawnDone (by kernel_rfl) ?_
          clear hD hH
          replace hS := hS.sel [0, 1, 5, 25] [] (sy' := ⟨[(0, V (.slice a1 a_.length c1)), (1, V (.slice a2 b_.length c2)), (5, I i_103), (25, B ((gi a_ i_103) != (gi b_ i_103)))], []⟩) (by kernel_rfl)
          refine wcond hS (b := ((gi a_ i_103) != (gi b_ i_103))) (by kernel_rfl) (fun hb => ?_) (fun hb => ?_)
          · replace hm := hm.1 hb
            refine regP T hS (sp := []) (ks := [4]) (bs := []) (sy' := ⟨[(4, B false)], []⟩) (by kernel_rfl) ?_
            intro a hS
            refine wret ?_
            exact fin T hS hO (fun c => c) rfl (r := [.bool false]) (by kernel_rfl) (fun χ' hM hC => ⟨false, hm, rfl⟩)
          · replace hm := hm.2 hb
            refine wskip ?_
            refine region (endP T hS (sp := []) (ks := [0, 1, 5]) (bs := []) (sy' := ⟨[(0, V (.slice a1 a_.length c1)), (1, V (.slice a2 b_.length c2)), (5, I (IntKind.i64.wrap (i_103 + 1)))], []⟩) (by kernel_rfl) ?_)
            intro a hS
            exact ⟨IntKind.i64.wrap (i_103 + 1), ⟨ρ, _, hm.1, hS.sel [0, 1, 5] [] (by kernel_rfl), hO, h101, h102⟩, hm.2⟩
        · replace hm := hm.2 hb
          refine wexit (by rfl) ?_
          exact ⟨ρ, _, hm, hS.sel [] [] (by kernel_rfl), hO⟩
    · rintro a w114 ⟨ρ, χ113, hm, hS, hO⟩
      unfold VC34_J1 at hm
      refine regP T hS (sp := []) (ks := [4]) (bs := []) (sy' := ⟨[(4, B true)], []⟩) (by kernel_rfl) ?_
      intro a hS
      refine wret ?_
      exact fin T hS hO (fun c => c) rfl (r := [.bool true]) (by kernel_rfl) (fun χ' hM hC => ⟨true, hm, rfl⟩)
theorem C34 (v : ∀ (a_ : List Int) (b_ : List Int), VC34 a_ b_ (fun r => r = ref01_SameInts a_ b_)) : S34 := by
  intro w χ a_ b_ a1 c1 a2 c2   h1 h2
  refine (W34 w χ a_ b_ a1 c1 a2 c2   _ (v a_ b_) h1 h2).mono ?_
  rintro _ _ _ _ ⟨r, rfl, h⟩
  exact h
def S79 : Prop := ∀ (w : World) (χ : Nat → Nat) (l_ : Int), Ret Try.prog 79 #[.int .i64 l_] xnone w χ (fun w χ' v => v = .tuple #[.int .i64 ((ref01_Split l_).1), .bool ((ref01_Split l_).2)])
theorem hb79 : hasBody Try.prog 79 = true := by kernel_rfl
/-- replevin/replevinref01.Split -/
theorem W79 (w0 : World) (χ0 : Nat → Nat) (l_ : Int) (Q : Int × Bool → Prop) (hm : VC79 l_ Q) :
    Ret Try.prog 79 #[.int .i64 l_] xnone w0 χ0 (fun w χ' v => ∃ r, Q r ∧ v = .tuple #[.int .i64 r.1, .bool r.2]) := by
  unfold VC79 at hm
  refine enter Try.func79 rfl (vals := [.int .i64 l_]) (by kernel_rfl) ?_
  intro ρ a hS hO hM
  clear hM
  refine regP T hS (sp := []) (ks := [0]) (bs := []) (sy' := ⟨[(0, I l_)], []⟩) (by kernel_rfl) ?_
  intro a hS
  refine wseq ?_
  refine regP T hS (sp := [6]) (ks := [0, 9]) (bs := []) (sy' := ⟨[(0, I l_), (9, B ((decide (l_ > 0)) && (decide (l_ ≤ 100000))))], []⟩) (by kernel_rfl) ?_
  intro a hS
  refine wcond hS (b := ((decide (l_ > 0)) && (decide (l_ ≤ 100000)))) (by kernel_rfl) (fun hb => ?_) (fun hb => ?_)
  · replace hm := hm.1 hb
    refine regP T hS (sp := []) (ks := [2, 3]) (bs := []) (sy' := ⟨[(2, I l_), (3, B true)], []⟩) (by kernel_rfl) ?_
    intro a hS
    refine wret ?_
    exact fin T hS hO (fun c => c) rfl (r := [.int .i64 l_, .bool true]) (by kernel_rfl) (fun χ' hM hC => ⟨(l_, true), hm, rfl⟩)
  · replace hm := hm.2 hb
    refine wskip ?_
    refine wseq ?_
    refine regP T hS (sp := [13]) (ks := [0, 16]) (bs := []) (sy' := ⟨[(0, I l_), (16, B ((decide (l_ < 0)) && (decide (l_ ≥ (-100000)))))], []⟩) (by kernel_rfl) ?_
    intro a hS
    refine wcond hS (b := ((decide (l_ < 0)) && (decide (l_ ≥ (-100000))))) (by kernel_rfl) (fun hb => ?_) (fun hb => ?_)
    · replace hm := hm.1 hb
      refine regP T hS (sp := []) (ks := [2, 3]) (bs := []) (sy' := ⟨[(2, I (IntKind.i64.wrap (0 - l_))), (3, B false)], []⟩) (by kernel_rfl) ?_
      intro a hS
      refine wret ?_
      exact fin T hS hO (fun c => c) rfl (r := [.int .i64 (IntKind.i64.wrap (0 - l_)), .bool false]) (by kernel_rfl) (fun χ' hM hC => ⟨(IntKind.i64.wrap (0 - l_), false), hm, rfl⟩)
    · replace hm := hm.2 hb
      refine wskip ?_
      refine regP T hS (sp := []) (ks := [2, 3]) (bs := []) (sy' := ⟨[(2, I 0), (3, B false)], []⟩) (by kernel_rfl) ?_
      intro a hS
      refine wret ?_
      exact fin T hS hO (fun c => c) rfl (r := [.int .i64 0, .bool false]) (by kernel_rfl) (fun χ' hM hC => ⟨(0, false), hm, rfl⟩)
theorem C79 (v : ∀ (l_ : Int), VC79 l_ (fun r => r = ref01_Split l_)) : S79 := by
  intro w χ l_    
  refine (W79 w χ l_    _ (v l_)).mono ?_
  rintro _ _ _ _ ⟨r, rfl, h⟩
  exact h
def S62 : Prop := ∀ (w : World) (χ : Nat → Nat) (c_ : List Int) (m_ : List Bool) (a1 : Option Addr) (c1 : Nat) (a2 : Option Addr) (c2 : Nat), RS tI w χ a1 c_ c1 → RS tBool w χ a2 m_ c2 → Ret Try.prog 62 #[.slice a1 c_.length c1, .slice a2 m_.length c2] xnone w χ (fun w χ' v => v = .bool (ref02_Holds c_ m_))
theorem hb62 : hasBody Try.prog 62 = true := by kernel_rfl
/-- replevin/replevinref02.Holds -/
theorem W62 (k79 : S79) (w0 : World) (χ0 : Nat → Nat) (c_ : List Int) (m_ : List Bool) (a1 : Option Addr) (c1 : Nat) (a2 : Option Addr) (c2 : Nat) (Q : Bool → Prop) (hm : VC62 c_ m_ Q) (h1 : RS tI w0 χ0 a1 c_ c1) (h2 : RS tBool w0 χ0 a2 m_ c2) :
    Ret Try.prog 62 #[.slice a1 c_.length c1, .slice a2 m_.length c2] xnone w0 χ0 (fun w χ' v => ∃ r, Q r ∧ v = .bool r) := by
  unfold VC62 at hm
  replace hm := hm (h1.sm (by kernel_rfl))
  replace hm := hm (h2.sm (by kernel_rfl))
  refine enter Try.func62 rfl (vals := [.slice a1 c_.length c1, .slice a2 m_.length c2]) (by kernel_rfl) ?_
  intro ρ a hS hO hM
  replace h1 := h1.m0 hM
  replace h2 := h2.m0 hM
  clear hM
  refine regP T hS (sp := []) (ks := [0, 1]) (bs := []) (sy' := ⟨[(0, V (.slice a1 c_.length c1)), (1, V (.slice a2 m_.length c2))], []⟩) (by kernel_rfl) ?_
  intro a hS
  refine wcut (fun a w => ∃ (ρ : Nat → Nat) (χ : Nat → Nat), VC62_J1 Q ∧ St Try.f62.ntmps ⟨[], []⟩ ρ a w χ ∧ Old w0 χ0 w χ) ?_ ?_
  · refine regP T hS (sp := []) (ks := [0, 1, 5]) (bs := []) (sy' := ⟨[(0, V (.slice a1 c_.length c1)), (1, V (.slice a2 m_.length c2)), (5, I 0)], []⟩) (by kernel_rfl) ?_
    intro a hS
    refine wblock ?_
    obtain ⟨I1, μ1, hm0, hm⟩ := hm
    refine wloop (σ := Int) (fun s a w => ∃ (ρ : Nat → Nat) (χ : Nat → Nat), I1 s ∧ St Try.f62.ntmps ⟨[(0, V (.slice a1 c_.length c1)), (1, V (.slice a2 m_.length c2)), (5, I s)], []⟩ ρ a w χ ∧ Old w0 χ0 w χ ∧ RS tI w χ a1 c_ c1 ∧ RS tBool w χ a2 m_ c2) (fun s => μ1 s) (0) ?_ ?_
    · exact ⟨ρ, _, hm0, hS.sel [0, 1, 5] [] (by kernel_rfl), hO, h1, h2⟩
    · rintro i_103 a w124 ⟨ρ, χ123, hI, hS, hO, h101, h102⟩
      replace hm := hm i_103 hI
      clear hI hm0
      refine wseq ?_
      refine regP T hS (sp := []) (ks := [0, 1, 5, 12]) (bs := []) (sy' := ⟨[(0, V (.slice a1 c_.length c1)), (1, V (.slice a2 m_.length c2)), (5, I i_103), (12, B (decide (i_103 < ((c_.length : Nat) : Int))))], []⟩) (by kernel_rfl) ?_
      intro a hS
      refine wcond hS (b := decide (i_103 < ((c_.length : Nat) : Int))) (by kernel_rfl) (fun hb => ?_) (fun hb => ?_)
      · replace hm := hm.1 hb
        refine wskip ?_
        refine wcut (fun a w => ∃ (ρ : Nat → Nat) (χ : Nat → Nat), VC62_J2 I1 μ1 i_103 ∧ St Try.f62.ntmps ⟨[(0, V (.slice a1 c_.length c1)), (1, V (.slice a2 m_.length c2)), (5, I i_103)], []⟩ ρ a w χ ∧ Old w0 χ0 w χ ∧ RS tI w χ a1 c_ c1 ∧ RS tBool w χ a2 m_ c2) ?_ ?_
        · refine wblock ?_
          refine regO ?_
          refine opsP T hS 2 (sp := []) (ks := [0, 1, 5, 16, 17]) (bs := []) (sy' := ⟨[(0, V (.slice a1 c_.length c1)), (1, V (.slice a2 m_.length c2)), (5, I i_103), (16, V (.slice a1 c_.length c1)), (17, I i_103)], []⟩) (by kernel_rfl) ?_
          intro a hS
          obtain ⟨hq, hm⟩ := hm
          refine op1 (index (e := 3) (k := .i64) T hS (by kernel_rfl) (by kernel_rfl) (by kernel_rfl) (by kernel_rfl) h101 (by kernel_rfl) (by kernel_rfl) hq.1 hq.2 ?_)
          intro A106 a h107 hS
          clear hq
          refine op1 (load1 T hS (by kernel_rfl) (by kernel_rfl) (by kernel_rfl) h107 rfl (by kernel_rfl) ?_)
          intro v108 a hv hS
          cases hv
          refine op1 (call hS (by kernel_rfl) (by kernel_rfl) hb79 (by kernel_rfl) (fun _ _ => rfl) (k79 _ _ (gi c_ i_103)) ?_)
          intro v109 a w110 χ111 hE hp hS
          replace hO := hO.mv hE rfl rfl
          replace h101 := h101.mv hE rfl
          replace h102 := h102.mv hE rfl
          replace h107 := h107.mv hE rfl
          clear hE
          obtain ⟨r112, hr⟩ : ∃ r, ref01_Split (gi c_ i_103) = r := ⟨_, rfl⟩
          replace hm := hm r112 hr
          rw [hr] at hp
          clear hr
          subst hp
          refine endP T hS (sp := []) (ks := [0, 1, 5, 6, 7]) (bs := []) (sy' := ⟨[(0, V (.slice a1 c_.length c1)), (1, V (.slice a2 m_.length c2)), (5, I i_103), (6, I r112.1), (7, B r112.2)], []⟩) (by kernel_rfl) ?_
          intro a hS
          refine wseq ?_
          refine regP T hS (sp := []) (ks := [0, 1, 5, 6, 7, 24]) (bs := []) (sy' := ⟨[(0, V (.slice a1 c_.length c1)), (1, V (.slice a2 m_.length c2)), (5, I i_103), (6, I r112.1), (7, B r112.2), (24, B (r112.1 == 0))], []⟩) (by kernel_rfl) ?_
          intro a hS
          refine wcond hS (b := (r112.1 == 0)) (by kernel_rfl) (fun hb => ?_) (fun hb => ?_)
          · replace hm := hm.1 hb
            refine wexit (by rfl) ?_
            exact ⟨ρ, _, hm, hS.sel [0, 1, 5] [] (by kernel_rfl), hO, h101, h102⟩
          · replace hm := hm.2 hb
            refine wskip ?_
            refine wcut (fun a w => ∃ (ρ : Nat → Nat) (χ : Nat → Nat) (is_115 : Bool), VC62_J3 Q I1 μ1 i_103 r112 is_115 ∧ St Try.f62.ntmps ⟨[(0, V (.slice a1 c_.length c1)), (1, V (.slice a2 m_.length c2)), (5, I i_103), (7, B r112.2), (8, B is_115)], []⟩ ρ a w χ ∧ Old w0 χ0 w χ ∧ RS tI w χ a1 c_ c1 ∧ RS tBool w χ a2 m_ c2) ?_ ?_
            · refine region ?_
              refine opsP T hS 5 (sp := []) (ks := [0, 1, 5, 6, 7, 29]) (bs := []) (sy' := ⟨[(0, V (.slice a1 c_.length c1)), (1, V (.slice a2 m_.length c2)), (5, I i_103), (6, I r112.1), (7, B r112.2), (29, B (decide (r112.1 ≤ ((m_.length : Nat) : Int))))], []⟩) (by kernel_rfl) ?_
              intro a hS
              rcases Bool.eq_false_or_eq_true (decide (r112.1 ≤ ((m_.length : Nat) : Int))) with hb | hb
              · replace hS := hS.lit (t := 29) (by kernel_rfl) hb
                replace hm := hm.1 hb
                refine opsP T hS 3 (sp := []) (ks := [0, 1, 5, 7, 29, 30, 31, 32]) (bs := []) (sy' := ⟨[(0, V (.slice a1 c_.length c1)), (1, V (.slice a2 m_.length c2)), (5, I i_103), (7, B r112.2), (29, B true), (30, V (.slice a2 m_.length c2)), (31, I r112.1), (32, I (IntKind.i64.wrap (r112.1 - 1)))], []⟩) (by kernel_rfl) ?_
                intro a hS
                obtain ⟨hq, hm⟩ := hm
                refine op1 (index (e := 4) (k := .i64) T hS (by kernel_rfl) (by kernel_rfl) (by kernel_rfl) (by kernel_rfl) h102 (by kernel_rfl) (by kernel_rfl) hq.1 hq.2 ?_)
                intro A116 a h117 hS
                clear hq
                refine op1 (load1 T hS (by kernel_rfl) (by kernel_rfl) (by kernel_rfl) h117 rfl (by kernel_rfl) ?_)
                intro v118 a hv hS
                cases hv
                refine endP T hS (sp := []) (ks := [0, 1, 5, 7, 8, 30, 31, 32, 33, 34]) (bs := []) (sy' := ⟨[(0, V (.slice a1 c_.length c1)), (1, V (.slice a2 m_.length c2)), (5, I i_103), (7, B r112.2), (8, B (gi m_ (IntKind.i64.wrap (r112.1 - 1)))), (30, V (.slice a2 m_.length c2)), (31, I r112.1), (32, I (IntKind.i64.wrap (r112.1 - 1))), (33, V (.pointer (some A116))), (34, B (gi m_ (IntKind.i64.wrap (r112.1 - 1))))], []⟩) (by kernel_rfl) ?_
                intro a hS
                exact ⟨ρ, _, gi m_ (IntKind.i64.wrap (r112.1 - 1)), hm, hS.sel [0, 1, 5, 7, 8] [] (by kernel_rfl), hO, h101, h102⟩
              · replace hS := hS.lit (t := 29) (by kernel_rfl) hb
                replace hm := hm.2 hb
                refine endP T hS (sp := []) (ks := [0, 1, 5, 7, 8]) (bs := []) (sy' := ⟨[(0, V (.slice a1 c_.length c1)), (1, V (.slice a2 m_.length c2)), (5, I i_103), (7, B r112.2), (8, B false)], []⟩) (by kernel_rfl) ?_
                intro a hS
                exact ⟨ρ, _, false, hm, hS.sel [0, 1, 5, 7, 8] [] (by kernel_rfl), hO, h101, h102⟩
            · rintro a w120 ⟨ρ, χ119, is_115, hm, hS, hO, h113, h114⟩
              unfold VC62_J3 at hm
              refine regP T hS (sp := []) (ks := [0, 1, 5, 38]) (bs := []) (sy' := ⟨[(0, V (.slice a1 c_.length c1)), (1, V (.slice a2 m_.length c2)), (5, I i_103), (38, B (is_115 == r112.2))], []⟩) (by kernel_rfl) ?_
              intro a hS
              refine wcond hS (b := (is_115 == r112.2)) (by kernel_rfl) (fun hb => ?_) (fun hb => ?_)
              · replace hm := hm.1 hb
                refine regP T hS (sp := []) (ks := [4]) (bs := []) (sy' := ⟨[(4, B true)], []⟩) (by kernel_rfl) ?_
                intro a hS
                refine wret ?_
                exact fin T hS hO (fun c => c) rfl (r := [.bool true]) (by kernel_rfl) (fun χ' hM hC => ⟨true, hm, rfl⟩)
              · replace hm := hm.2 hb
                refine wskip ?_
                exact ⟨ρ, _, hm, hS.sel [0, 1, 5] [] (by kernel_rfl), hO, h113, h114⟩
        · rintro a w122 ⟨ρ, χ121, hm, hS, hO, h104, h105⟩
          unfold VC62_J2 at hm
          refine region (endP T hS (sp := []) (ks := [0, 1, 5]) (bs := []) (sy' := ⟨[(0, V (.slice a1 c_.length c1)), (1, V (.slice a2 m_.length c2)), (5, I (IntKind.i64.wrap (i_103 + 1)))], []⟩) (by kernel_rfl) ?_)
          intro a hS
          exact ⟨IntKind.i64.wrap (i_103 + 1), ⟨ρ, _, hm.1, hS.sel [0, 1, 5] [] (by kernel_rfl), hO, h104, h105⟩, hm.2⟩
      · replace hm := hm.2 hb
        refine wexit (by rfl) ?_
        exact ⟨ρ, _, hm, hS.sel [] [] (by kernel_rfl), hO⟩
  · rintro a w126 ⟨ρ, χ125, hm, hS, hO⟩
    unfold VC62_J1 at hm
    refine regP T hS (sp := []) (ks := [4]) (bs := []) (sy' := ⟨[(4, B false)], []⟩) (by kernel_rfl) ?_
    intro a hS
    refine wret ?_
    exact fin T hS hO (fun c => c) rfl (r := [.bool false]) (by kernel_rfl) (fun χ' hM hC => ⟨false, hm, rfl⟩)
theorem C62 (k79 : S79) (v : ∀ (c_ : List Int) (m_ : List Bool), VC62 c_ m_ (fun r => r = ref02_Holds c_ m_)) : S62 := by
  intro w χ c_ m_ a1 c1 a2 c2   h1 h2
  refine (W62 k79 w χ c_ m_ a1 c1 a2 c2   _ (v c_ m_) h1 h2).mono ?_
  rintro _ _ _ _ ⟨r, rfl, h⟩
  exact h
def S36 : Prop := ∀ (w : World) (χ : Nat → Nat) (f_ : Api_Formula) (m_ : List Bool) (a1 : Option Addr) (c1 : Nat) (a2 : Option Addr) (c2 : Nat), RS (tSlice tI) w χ a1 f_.Clauses c1 → RS tBool w χ a2 m_ c2 → Ret Try.prog 36 #[.agg #[.int .i64 f_.Vars, .slice a1 f_.Clauses.length c1], .slice a2 m_.length c2] xnone w χ (fun w χ' v => v = .int .i64 (ref04_First f_ m_))
theorem hb36 : hasBody Try.prog 36 = true := by kernel_rfl
/-- replevin/replevinref04.First -/
theorem W36 (k62 : S62) (w0 : World) (χ0 : Nat → Nat) (f_ : Api_Formula) (m_ : List Bool) (a1 : Option Addr) (c1 : Nat) (a2 : Option Addr) (c2 : Nat) (Q : Int → Prop) (hm : VC36 f_ m_ Q) (h1 : RS (tSlice tI) w0 χ0 a1 f_.Clauses c1) (h2 : RS tBool w0 χ0 a2 m_ c2) :
    Ret Try.prog 36 #[.agg #[.int .i64 f_.Vars, .slice a1 f_.Clauses.length c1], .slice a2 m_.length c2] xnone w0 χ0 (fun w χ' v => ∃ r, Q r ∧ v = .int .i64 r) := by
  unfold VC36 at hm
  replace hm := hm (h1.sm (by kernel_rfl))
  replace hm := hm (h2.sm (by kernel_rfl))
  refine enter Try.func36 rfl (vals := [.agg #[.int .i64 f_.Vars, .slice a1 f_.Clauses.length c1], .slice a2 m_.length c2]) (by kernel_rfl) ?_
  intro ρ a hS hO hM
  replace h1 := h1.m0 hM
  replace h2 := h2.m0 hM
  clear hM
  refine regM T hS (sp := []) (ks := [1, 2]) (bs := [3]) (sy' := ⟨[(1, V (.slice a2 m_.length c2)), (2, Pt 3 0)], [(3, (58, [I f_.Vars, V (.slice a1 f_.Clauses.length c1)]))]⟩) (by kernel_rfl) ?_
  intro ρ a w118 χ119 hS hE hr
  replace hO := hO.mv hE rfl rfl
  replace h1 := h1.mv hE rfl
  replace h2 := h2.mv hE rfl
  clear hE hr
  refine wcut (fun a w => ∃ (ρ : Nat → Nat) (χ : Nat → Nat), VC36_J1 Q ∧ St Try.f36.ntmps ⟨[], []⟩ ρ a w χ ∧ Old w0 χ0 w χ) ?_ ?_
  · refine regP T hS (sp := []) (ks := [1, 2, 5]) (bs := [3]) (sy' := ⟨[(1, V (.slice a2 m_.length c2)), (2, Pt 3 0), (5, I 0)], [(3, (58, [I f_.Vars, V (.slice a1 f_.Clauses.length c1)]))]⟩) (by kernel_rfl) ?_
    intro a hS
    refine wblock ?_
    obtain ⟨I1, μ1, hm0, hm⟩ := hm
    refine wloop (σ := Int) (fun s a w => ∃ (ρ : Nat → Nat) (χ : Nat → Nat), I1 s ∧ St Try.f36.ntmps ⟨[(1, V (.slice a2 m_.length c2)), (2, Pt 3 0), (5, I s)], [(3, (58, [I f_.Vars, V (.slice a1 f_.Clauses.length c1)]))]⟩ ρ a w χ ∧ Old w0 χ0 w χ ∧ RS tBool w χ a2 m_ c2 ∧ RS (tSlice tI) w χ a1 f_.Clauses c1) (fun s => μ1 s) (0) ?_ ?_
    · exact ⟨ρ, _, hm0, hS.sel [1, 2, 5] [3] (by kernel_rfl), hO, h2, h1⟩
    · rintro i_102 a w115 ⟨ρ, χ114, hI, hS, hO, h101, h103⟩
      replace hm := hm i_102 hI
      clear hI hm0
      refine wseq ?_
      refine regP T hS (sp := []) (ks := [1, 2, 5, 10]) (bs := [3]) (sy' := ⟨[(1, V (.slice a2 m_.length c2)), (2, Pt 3 0), (5, I i_102), (10, B (decide (i_102 < ((f_.Clauses.length : Nat) : Int))))], [(3, (58, [I f_.Vars, V (.slice a1 f_.Clauses.length c1)]))]⟩) (by kernel_rfl) ?_
      intro a hS
      refine wcond hS (b := decide (i_102 < ((f_.Clauses.length : Nat) : Int))) (by kernel_rfl) (fun hb => ?_) (fun hb => ?_)
      · replace hm := hm.1 hb
        refine wskip ?_
        refine wseq ?_
        refine wblock ?_
        refine regO ?_
        refine opsP T hS 3 (sp := []) (ks := [1, 2, 5, 14, 15]) (bs := [3]) (sy' := ⟨[(1, V (.slice a2 m_.length c2)), (2, Pt 3 0), (5, I i_102), (14, V (.slice a1 f_.Clauses.length c1)), (15, I i_102)], [(3, (58, [I f_.Vars, V (.slice a1 f_.Clauses.length c1)]))]⟩) (by kernel_rfl) ?_
        intro a hS
        obtain ⟨hq, hm⟩ := hm
        refine op1 (index (e := 42) (k := .i64) T hS (by kernel_rfl) (by kernel_rfl) (by kernel_rfl) (by kernel_rfl) h103 (by kernel_rfl) (by kernel_rfl) hq.1 hq.2 ?_)
        intro A104 a h105 hS
        clear hq
        refine op1 (load1 T hS (by kernel_rfl) (by kernel_rfl) (by kernel_rfl) h105 rfl (by kernel_rfl) ?_)
        intro v106 a hv hS
        obtain ⟨a107, c108, hv, h109⟩ := hv
        cases hv
        replace hm := hm (h109.sm (by kernel_rfl))
        refine opsP T hS 1 (sp := []) (ks := [1, 2, 5, 17, 18]) (bs := [3]) (sy' := ⟨[(1, V (.slice a2 m_.length c2)), (2, Pt 3 0), (5, I i_102), (17, V (.slice a107 (gi f_.Clauses i_102).length c108)), (18, V (.slice a2 m_.length c2))], [(3, (58, [I f_.Vars, V (.slice a1 f_.Clauses.length c1)]))]⟩) (by kernel_rfl) ?_
        intro a hS
        refine op1 (call hS (by kernel_rfl) (by kernel_rfl) hb62 (by kernel_rfl) (fun _ _ => rfl) (k62 _ _ (gi f_.Clauses i_102) m_ a107 c108 a2 c2 h109 h101) ?_)
        intro v110 a w111 χ112 hE hp hS
        replace hO := hO.mv hE rfl rfl
        replace h101 := h101.mv hE rfl
        replace h103 := h103.mv hE rfl
        replace h109 := h109.mv hE rfl
        clear hE
        obtain ⟨r113, hr⟩ : ∃ r, ref02_Holds (gi f_.Clauses i_102) m_ = r := ⟨_, rfl⟩
        replace hm := hm r113 hr
        rw [hr] at hp
        clear hr
        subst hp
        refine endP T hS (sp := []) (ks := [1, 2, 5, 20]) (bs := [3]) (sy' := ⟨[(1, V (.slice a2 m_.length c2)), (2, Pt 3 0), (5, I i_102), (20, B (!r113))], [(3, (58, [I f_.Vars, V (.slice a1 f_.Clauses.length c1)]))]⟩) (by kernel_rfl) ?_
        intro a hS
        refine wcond hS (b := (!r113)) (by kernel_rfl) (fun hb => ?_) (fun hb => ?_)
        · replace hm := hm.1 hb
          refine regP T hS (sp := []) (ks := [4]) (bs := []) (sy' := ⟨[(4, I i_102)], []⟩) (by kernel_rfl) ?_
          intro a hS
          refine wret ?_
          exact fin T hS hO (fun c => c) rfl (r := [.int .i64 i_102]) (by kernel_rfl) (fun χ' hM hC => ⟨i_102, hm, rfl⟩)
        · replace hm := hm.2 hb
          refine wskip ?_
          refine region (endP T hS (sp := []) (ks := [1, 2, 5]) (bs := [3]) (sy' := ⟨[(1, V (.slice a2 m_.length c2)), (2, Pt 3 0), (5, I (IntKind.i64.wrap (i_102 + 1)))], [(3, (58, [I f_.Vars, V (.slice a1 f_.Clauses.length c1)]))]⟩) (by kernel_rfl) ?_)
          intro a hS
          exact ⟨IntKind.i64.wrap (i_102 + 1), ⟨ρ, _, hm.1, hS.sel [1, 2, 5] [3] (by kernel_rfl), hO, h101, h103⟩, hm.2⟩
      · replace hm := hm.2 hb
        refine wexit (by rfl) ?_
        exact ⟨ρ, _, hm, hS.sel [] [] (by kernel_rfl), hO⟩
  · rintro a w117 ⟨ρ, χ116, hm, hS, hO⟩
    unfold VC36_J1 at hm
    refine regP T hS (sp := []) (ks := [4]) (bs := []) (sy' := ⟨[(4, I (-1))], []⟩) (by kernel_rfl) ?_
    intro a hS
    refine wret ?_
    exact fin T hS hO (fun c => c) rfl (r := [.int .i64 (-1)]) (by kernel_rfl) (fun χ' hM hC => ⟨(-1), hm, rfl⟩)
theorem C36 (k62 : S62) (v : ∀ (f_ : Api_Formula) (m_ : List Bool), VC36 f_ m_ (fun r => r = ref04_First f_ m_)) : S36 := by
  intro w χ f_ m_ a1 c1 a2 c2   h1 h2
  refine (W36 k62 w χ f_ m_ a1 c1 a2 c2   _ (v f_ m_) h1 h2).mono ?_
  rintro _ _ _ _ ⟨r, rfl, h⟩
  exact h
def S31 : Prop := ∀ (w : World) (χ : Nat → Nat) (a_ : List (List Int)) (b_ : List (List Int)) (a1 : Option Addr) (c1 : Nat) (a2 : Option Addr) (c2 : Nat), RS (tSlice tI) w χ a1 a_ c1 → RS (tSlice tI) w χ a2 b_ c2 → Ret Try.prog 31 #[.slice a1 a_.length c1, .slice a2 b_.length c2] xnone w χ (fun w χ' v => v = .bool (ref04_SameRows a_ b_))
theorem hb31 : hasBody Try.prog 31 = true := by kernel_rfl
/-- replevin/replevinref04.SameRows -/
theorem W31 (k34 : S34) (w0 : World) (χ0 : Nat → Nat) (a_ : List (List Int)) (b_ : List (List Int)) (a1 : Option Addr) (c1 : Nat) (a2 : Option Addr) (c2 : Nat) (Q : Bool → Prop) (hm : VC31 a_ b_ Q) (h1 : RS (tSlice tI) w0 χ0 a1 a_ c1) (h2 : RS (tSlice tI) w0 χ0 a2 b_ c2) :
    Ret Try.prog 31 #[.slice a1 a_.length c1, .slice a2 b_.length c2] xnone w0 χ0 (fun w χ' v => ∃ r, Q r ∧ v = .bool r) := by
  unfold VC31 at hm
  replace hm := hm (h1.sm (by kernel_rfl))
  replace hm := hm (h2.sm (by kernel_rfl))
  refine enter Try.func31 rfl (vals := [.slice a1 a_.length c1, .slice a2 b_.length c2]) (by kernel_rfl) ?_
  intro ρ a hS hO hM
  replace h1 := h1.m0 hM
  replace h2 := h2.m0 hM
  clear hM
  refine regP T hS (sp := []) (ks := [0, 1]) (bs := []) (sy' := ⟨[(0, V (.slice a1 a_.length c1)), (1, V (.slice a2 b_.length c2))], []⟩) (by kernel_rfl) ?_
  intro a hS
  refine wseq ?_
  refine regP T hS (sp := []) (ks := [0, 1, 10]) (bs := []) (sy' := ⟨[(0, V (.slice a1 a_.length c1)), (1, V (.slice a2 b_.length c2)), (10, B (((a_.length : Nat) : Int) != ((b_.length : Nat) : Int)))], []⟩) (by kernel_rfl) ?_
  intro a hS
  refine wcond hS (b := (((a_.length : Nat) : Int) != ((b_.length : Nat) : Int))) (by kernel_rfl) (fun hb => ?_) (fun hb => ?_)
  · replace hm := hm.1 hb
    refine regP T hS (sp := []) (ks := [4]) (bs := []) (sy' := ⟨[(4, B false)], []⟩) (by kernel_rfl) ?_
    intro a hS
    refine wret ?_
    exact fin T hS hO (fun c => c) rfl (r := [.bool false]) (by kernel_rfl) (fun χ' hM hC => ⟨false, hm, rfl⟩)
  · replace hm := hm.2 hb
    refine wskip ?_
    refine wcut (fun a w => ∃ (ρ : Nat → Nat) (χ : Nat → Nat), VC31_J1 Q ∧ St Try.f31.ntmps ⟨[], []⟩ ρ a w χ ∧ Old w0 χ0 w χ) ?_ ?_
    · refine regP T hS (sp := []) (ks := [0, 1, 5]) (bs := []) (sy' := ⟨[(0, V (.slice a1 a_.length c1)), (1, V (.slice a2 b_.length c2)), (5, I 0)], []⟩) (by kernel_rfl) ?_
      intro a hS
      refine wblock ?_
      obtain ⟨I1, μ1, hm0, hm⟩ := hm
      refine wloop (σ := Int) (fun s a w => ∃ (ρ : Nat → Nat) (χ : Nat → Nat), I1 s ∧ St Try.f31.ntmps ⟨[(0, V (.slice a1 a_.length c1)), (1, V (.slice a2 b_.length c2)), (5, I s)], []⟩ ρ a w χ ∧ Old w0 χ0 w χ ∧ RS (tSlice tI) w χ a1 a_ c1 ∧ RS (tSlice tI) w χ a2 b_ c2) (fun s => μ1 s) (0) ?_ ?_
      · exact ⟨ρ, _, hm0, hS.sel [0, 1, 5] [] (by kernel_rfl), hO, h1, h2⟩
      · rintro i_103 a w122 ⟨ρ, χ121, hI, hS, hO, h101, h102⟩
        replace hm := hm i_103 hI
        clear hI hm0
        refine wseq ?_
        refine regP T hS (sp := []) (ks := [0, 1, 5, 14]) (bs := []) (sy' := ⟨[(0, V (.slice a1 a_.length c1)), (1, V (.slice a2 b_.length c2)), (5, I i_103), (14, B (decide (i_103 < ((a_.length : Nat) : Int))))], []⟩) (by kernel_rfl) ?_
        intro a hS
        refine wcond hS (b := decide (i_103 < ((a_.length : Nat) : Int))) (by kernel_rfl) (fun hb => ?_) (fun hb => ?_)
        · replace hm := hm.1 hb
          refine wskip ?_
          refine wseq ?_
          refine wblock ?_
          refine drawnS [] mixed hS ?_
          intro w104 hS hE hD hH
          replace hO := hO.mv hE rfl rfl
          replace h101 := h101.mv hE rfl
          replace h102 := h102.mv hE rfl
          clear hE
          refine take T [0, 1, 4, 5] [] [0, 1, 5, 17, 18, 21, 22] hS (by kernel_rfl) (by kernel_rfl) (by kernel_rfl) hH (listed' := #[true, true, false, false, true, true, false, false, false, false]) (fuel := 6) (sy' := ⟨[(0, V (.slice a1 a_.length c1)), (1, V (.slice a2 b_.length c2)), (5, I i_103), (17, V (.slice a1 a_.length c1)), (18, I i_103), (21, V (.slice a2 b_.length c2)), (22, I i_103)], []⟩) (by kernel_rfl) (by rfl) ?_
          intro a hS
          obtain ⟨hq, hm⟩ := hm
          refine dindex (e := 42) (k := .i64) T 2 hS (by kernel_rfl) (by kernel_rfl) (by kernel_rfl) (by rfl) (by kernel_rfl) hH (by kernel_rfl) (by kernel_rfl) h101 (by kernel_rfl) (by kernel_rfl) hq.1 hq.2 ?_
          intro A105 a h106 hS
          clear hq
          have h106b := h106.here
          refine dload1 T 3 hS (by kernel_rfl) (by kernel_rfl) (by kernel_rfl) (by rfl) (by kernel_rfl) hH (by kernel_rfl) h106 h106b rfl (by kernel_rfl) ?_
          intro v107 a hv hS
          obtain ⟨a108, c109, hv, h110⟩ := hv
          cases hv
          replace hm := hm (h110.sm (by kernel_rfl))
          obtain ⟨hq, hm⟩ := hm
          refine dindex (e := 42) (k := .i64) T 6 hS (by kernel_rfl) (by kernel_rfl) (by kernel_rfl) (by rfl) (by kernel_rfl) hH (by kernel_rfl) (by kernel_rfl) h102 (by kernel_rfl) (by kernel_rfl) hq.1 hq.2 ?_
          intro A111 a h112 hS
          clear hq
          have h112b := h112.here
          refine dload1 T 7 hS (by kernel_rfl) (by kernel_rfl) (by kernel_rfl) (by rfl) (by kernel_rfl) hH (by kernel_rfl) h112 h112b rfl (by kernel_rfl) ?_
          intro v113 a hv hS
          obtain ⟨a114, c115, hv, h116⟩ := hv
          cases hv
          replace hm := hm (h116.sm (by kernel_rfl))
          refine only 8 (by kernel_rfl) (by rfl) (call hS (by kernel_rfl) (by kernel_rfl) hb34 (by kernel_rfl) (fun _ _ => rfl) (k34 _ _ (gi a_ i_103) (gi b_ i_103) a108 c109 a114 c115 h110 h116) ?_)
          intro v117 a w118 χ119 hE hp hS
          replace hO := hO.mv hE rfl rfl
          replace hD := hD.ev hE rfl
          replace h101 := h101.mv hE rfl
          replace h102 := h102.mv hE rfl
          replace h106 := h106.mv hE rfl
          replace h110 := h110.mv hE rfl
          replace h112 := h112.mv hE rfl
          replace h116 := h116.mv hE rfl
          clear hE
          obtain ⟨r120, hr⟩ : ∃ r, ref01_SameInts (gi a_ i_103) (gi b_ i_103) = r := ⟨_, rfl⟩
          replace hm := hm r120 hr
          rw [hr] at hp
          clear hr
          subst hp
          refine andH (Hold.of hS (bks := []) (by kernel_rfl) hD) ?_
          intro hH
          refine take T [9] [] [0, 1, 5, 26] hS (by kernel_rfl) (by kernel_rfl) (by kernel_rfl) hH (listed' := #[true, true, true, true, true, true, true, true, true, true]) (fuel := 0) (sy' := ⟨[(0, V (.slice a1 a_.length c1)), (1, V (.slice a2 b_.length c2)), (5, I i_103), (26, B (!r120))], []⟩) (by kernel_rfl) (by rfl) ?_
          intro a hS
          refine drawnDone (by kernel_rfl) ?_
          clear hD hH
          replace hS := hS.sel [0, 1, 5, 26] [] (sy' := ⟨[(0, V (.slice a1 a_.length c1)), (1, V (.slice a2 b_.length c2)), (5, I i_103), (26, B (!r120))], []⟩) (by kernel_rfl)
          refine wcond hS (b := (!r120)) (by kernel_rfl) (fun hb => ?_) (fun hb => ?_)
          · replace hm := hm.1 hb
            refine regP T hS (sp := []) (ks := [4]) (bs := []) (sy' := ⟨[(4, B false)], []⟩) (by kernel_rfl) ?_
            intro a hS
            refine wret ?_
            exact fin T hS hO (fun c => c) rfl (r := [.bool false]) (by kernel_rfl) (fun χ' hM hC => ⟨false, hm, rfl⟩)
          · replace hm := hm.2 hb
            refine wskip ?_
            refine region (endP T hS (sp := []) (ks := [0, 1, 5]) (bs := []) (sy' := ⟨[(0, V (.slice a1 a_.length c1)), (1, V (.slice a2 b_.length c2)), (5, I (IntKind.i64.wrap (i_103 + 1)))], []⟩) (by kernel_rfl) ?_)
            intro a hS
            exact ⟨IntKind.i64.wrap (i_103 + 1), ⟨ρ, _, hm.1, hS.sel [0, 1, 5] [] (by kernel_rfl), hO, h101, h102⟩, hm.2⟩
        · replace hm := hm.2 hb
          refine wexit (by rfl) ?_
          exact ⟨ρ, _, hm, hS.sel [] [] (by kernel_rfl), hO⟩
    · rintro a w124 ⟨ρ, χ123, hm, hS, hO⟩
      unfold VC31_J1 at hm
      refine regP T hS (sp := []) (ks := [4]) (bs := []) (sy' := ⟨[(4, B true)], []⟩) (by kernel_rfl) ?_
      intro a hS
      refine wret ?_
      exact fin T hS hO (fun c => c) rfl (r := [.bool true]) (by kernel_rfl) (fun χ' hM hC => ⟨true, hm, rfl⟩)
theorem C31 (k34 : S34) (v : ∀ (a_ : List (List Int)) (b_ : List (List Int)), VC31 a_ b_ (fun r => r = ref04_SameRows a_ b_)) : S31 := by
  intro w χ a_ b_ a1 c1 a2 c2   h1 h2
  refine (W31 k34 w χ a_ b_ a1 c1 a2 c2   _ (v a_ b_) h1 h2).mono ?_
  rintro _ _ _ _ ⟨r, rfl, h⟩
  exact h
def S37 : Prop := ∀ (w : World) (χ : Nat → Nat), Ret Try.prog 37 #[] xnone w χ (fun w χ' v => v = .bool law33_awake)
theorem hb37 : hasBody Try.prog 37 = true := by kernel_rfl
/-- replevin/replevinlaw33.awake -/
theorem W37 (k31 : S31) (k34 : S34) (k38 : S38) (k40 : S40) (k42 : S42) (w0 : World) (χ0 : Nat → Nat) (Q : Bool → Prop) (hm : VC37 Q) :
    Ret Try.prog 37 #[] xnone w0 χ0 (fun w χ' v => ∃ r, Q r ∧ v = .bool r) := by
  unfold VC37 at hm
  refine enter Try.func37 rfl (vals := []) (by kernel_rfl) ?_
  intro ρ a hS hO hM
  clear hM
  refine regP T hS (sp := []) (ks := []) (bs := []) (sy' := ⟨[], []⟩) (by kernel_rfl) ?_
  intro a hS
  refine regO ?_
  refine opsP T hS 2 (sp := []) (ks := [10, 11]) (bs := []) (sy' := ⟨[(10, V (.agg #[.int .i64 2, .int .i64 1])), (11, V (.agg #[.int .i64 0, .int .i64 1]))], []⟩) (by kernel_rfl) ?_
  intro a hS
  refine op1 (lit (E := 68) (col := 0) (T := tP2) (vals := [.agg #[.int .i64 0, .int .i64 1]]) (ys := [(0, 1)]) T hS (by kernel_rfl) (by kernel_rfl) (by kernel_rfl) (by kernel_rfl) (by exact ⟨rfl, trivial⟩) rfl (by kernel_rfl) (by kernel_rfl) (by kernel_rfl) (by kernel_rfl) ?_)
  intro b101 a w102 χ103 hE h104 hN hS
  clear hN
  replace hO := hO.mv hE rfl rfl
  clear hE
  replace h104 := h104.rs0
  obtain ⟨hq, hm⟩ := hm
  refine op1 (call hS (by kernel_rfl) (by kernel_rfl) hb42 (by kernel_rfl) (fun _ _ => rfl) (k42 _ _ (⟨2, 1⟩ : Numbering_Size) [(0, 1)] (some ⟨b101, 0, none⟩) 1 hq h104) ?_)
  intro v105 a w106 χ107 hE hp hS
  clear hq
  replace hO := hO.mv hE rfl rfl
  replace h104 := h104.mv hE rfl
  clear hE
  obtain ⟨a109, c110, hp, h111⟩ := hp
  obtain ⟨r108, hr⟩ : ∃ r, times_Clauses (⟨2, 1⟩ : Numbering_Size) [(0, 1)] = r := ⟨_, rfl⟩
  replace hm := hm r108 hr
  rw [hr] at hp h111
  clear hr
  subst hp
  replace hm := hm (h111.sm (by kernel_rfl))
  refine endP T hS (sp := []) (ks := [1]) (bs := []) (sy' := ⟨[(1, V (.slice a109 r108.length c110))], []⟩) (by kernel_rfl) ?_
  intro a hS
  refine regO ?_
  refine op1 (lit (E := 3) (col := 0) (T := tI) (vals := [.int .i64 1, .int .i64 0]) (ys := [1, 0]) T hS (by kernel_rfl) (by kernel_rfl) (by kernel_rfl) (by kernel_rfl) (by exact ⟨rfl, rfl, trivial⟩) rfl (by kernel_rfl) (by kernel_rfl) (by kernel_rfl) (by kernel_rfl) ?_)
  intro b112 a w113 χ114 hE h115 hN hS
  clear hN
  replace hO := hO.mv hE rfl rfl
  replace h111 := h111.mv hE rfl
  clear hE
  replace h115 := h115.rs0
  refine opsP T hS 1 (sp := []) (ks := [1, 15, 16]) (bs := []) (sy' := ⟨[(1, V (.slice a109 r108.length c110)), (15, V (.slice (some ⟨b112, 0, none⟩) [1, 0].length 2)), (16, V (.agg #[.int .i64 0, .int .i64 1]))], []⟩) (by kernel_rfl) ?_
  intro a hS
  refine op1 (lit (E := 68) (col := 0) (T := tP2) (vals := [.agg #[.int .i64 0, .int .i64 1]]) (ys := [(0, 1)]) T hS (by kernel_rfl) (by kernel_rfl) (by kernel_rfl) (by kernel_rfl) (by exact ⟨rfl, trivial⟩) rfl (by kernel_rfl) (by kernel_rfl) (by kernel_rfl) (by kernel_rfl) ?_)
  intro b116 a w117 χ118 hE h119 hN hS
  clear hN
  replace hO := hO.mv hE rfl rfl
  replace h111 := h111.mv hE rfl
  replace h115 := h115.mv hE rfl
  clear hE
  replace h119 := h119.rs0
  refine op1 (call hS (by kernel_rfl) (by kernel_rfl) hb38 (by kernel_rfl) (fun _ _ => rfl) (k38 _ _ [1, 0] [(0, 1)] (some ⟨b112, 0, none⟩) 2 (some ⟨b116, 0, none⟩) 1 h115 h119) ?_)
  intro v120 a w121 χ122 hE hp hS
  replace hO := hO.mv hE rfl rfl
  replace h111 := h111.mv hE rfl
  replace h115 := h115.mv hE rfl
  replace h119 := h119.mv hE rfl
  clear hE
  obtain ⟨r123, hr⟩ : ∃ r, times_Against [1, 0] [(0, 1)] = r := ⟨_, rfl⟩
  replace hm := hm r123 hr
  rw [hr] at hp
  clear hr
  subst hp
  refine endP T hS (sp := []) (ks := [1, 2, 3]) (bs := []) (sy' := ⟨[(1, V (.slice a109 r108.length c110)), (2, I r123.1), (3, B r123.2)], []⟩) (by kernel_rfl) ?_
  intro a hS
  refine regO ?_
  refine op1 (lit (E := 3) (col := 0) (T := tI) (vals := [.int .i64 0, .int .i64 1]) (ys := [0, 1]) T hS (by kernel_rfl) (by kernel_rfl) (by kernel_rfl) (by kernel_rfl) (by exact ⟨rfl, rfl, trivial⟩) rfl (by kernel_rfl) (by kernel_rfl) (by kernel_rfl) (by kernel_rfl) ?_)
  intro b124 a w125 χ126 hE h127 hN hS
  clear hN
  replace hO := hO.mv hE rfl rfl
  replace h111 := h111.mv hE rfl
  clear hE
  replace h127 := h127.rs0
  refine opsP T hS 1 (sp := []) (ks := [1, 2, 3, 22, 23]) (bs := []) (sy' := ⟨[(1, V (.slice a109 r108.length c110)), (2, I r123.1), (3, B r123.2), (22, V (.slice (some ⟨b124, 0, none⟩) [0, 1].length 2)), (23, V (.agg #[.int .i64 0, .int .i64 1]))], []⟩) (by kernel_rfl) ?_
  intro a hS
  refine op1 (lit (E := 68) (col := 0) (T := tP2) (vals := [.agg #[.int .i64 0, .int .i64 1]]) (ys := [(0, 1)]) T hS (by kernel_rfl) (by kernel_rfl) (by kernel_rfl) (by kernel_rfl) (by exact ⟨rfl, trivial⟩) rfl (by kernel_rfl) (by kernel_rfl) (by kernel_rfl) (by kernel_rfl) ?_)
  intro b128 a w129 χ130 hE h131 hN hS
  clear hN
  replace hO := hO.mv hE rfl rfl
  replace h111 := h111.mv hE rfl
  replace h127 := h127.mv hE rfl
  clear hE
  replace h131 := h131.rs0
  refine op1 (call hS (by kernel_rfl) (by kernel_rfl) hb38 (by kernel_rfl) (fun _ _ => rfl) (k38 _ _ [0, 1] [(0, 1)] (some ⟨b124, 0, none⟩) 2 (some ⟨b128, 0, none⟩) 1 h127 h131) ?_)
  intro v132 a w133 χ134 hE hp hS
  replace hO := hO.mv hE rfl rfl
  replace h111 := h111.mv hE rfl
  replace h127 := h127.mv hE rfl
  replace h131 := h131.mv hE rfl
  clear hE
  obtain ⟨r135, hr⟩ : ∃ r, times_Against [0, 1] [(0, 1)] = r := ⟨_, rfl⟩
  replace hm := hm r135 hr
  rw [hr] at hp
  clear hr
  subst hp
  refine endP T hS (sp := []) (ks := [1, 2, 3, 4, 5]) (bs := []) (sy' := ⟨[(1, V (.slice a109 r108.length c110)), (2, I r123.1), (3, B r123.2), (4, I r135.1), (5, B r135.2)], []⟩) (by kernel_rfl) ?_
  intro a hS
  refine regO ?_
  refine opsP T hS 1 (sp := []) (ks := [1, 2, 3, 4, 5, 29]) (bs := []) (sy' := ⟨[(1, V (.slice a109 r108.length c110)), (2, I r123.1), (3, B r123.2), (4, I r135.1), (5, B r135.2), (29, V (.agg #[.int .i64 2, .int .i64 0]))], []⟩) (by kernel_rfl) ?_
  intro a hS
  refine op1 (lit (E := 68) (col := 0) (T := tP2) (vals := [.agg #[.int .i64 2, .int .i64 0]]) (ys := [(2, 0)]) T hS (by kernel_rfl) (by kernel_rfl) (by kernel_rfl) (by kernel_rfl) (by exact ⟨rfl, trivial⟩) rfl (by kernel_rfl) (by kernel_rfl) (by kernel_rfl) (by kernel_rfl) ?_)
  intro b136 a w137 χ138 hE h139 hN hS
  clear hN
  replace hO := hO.mv hE rfl rfl
  replace h111 := h111.mv hE rfl
  clear hE
  replace h139 := h139.rs0
  refine op1 (call hS (by kernel_rfl) (by kernel_rfl) hb40 (by kernel_rfl) (fun _ _ => rfl) (k40 _ _ 3 [(2, 0)] (some ⟨b136, 0, none⟩) 1 h139) ?_)
  intro v140 a w141 χ142 hE hp hS
  replace hO := hO.mv hE rfl rfl
  replace h111 := h111.mv hE rfl
  replace h139 := h139.mv hE rfl
  clear hE
  obtain ⟨a144, c145, hp, h146⟩ := hp
  obtain ⟨r143, hr⟩ : ∃ r, times_Sort 3 [(2, 0)] = r := ⟨_, rfl⟩
  replace hm := hm r143 hr
  rw [hr] at hp h146
  clear hr
  subst hp
  replace hm := hm (h146.sm (by kernel_rfl))
  refine endP T hS (sp := []) (ks := [1, 2, 3, 4, 5, 6, 7]) (bs := []) (sy' := ⟨[(1, V (.slice a109 r108.length c110)), (2, I r123.1), (3, B r123.2), (4, I r135.1), (5, B r135.2), (6, V (.slice a144 r143.1.length c145)), (7, B r143.2)], []⟩) (by kernel_rfl) ?_
  intro a hS
  refine regO ?_
  refine opsP T hS 2 (sp := []) (ks := [1, 2, 3, 4, 5, 6, 7, 35, 36]) (bs := []) (sy' := ⟨[(1, V (.slice a109 r108.length c110)), (2, I r123.1), (3, B r123.2), (4, I r135.1), (5, B r135.2), (6, V (.slice a144 r143.1.length c145)), (7, B r143.2), (35, V (.agg #[.int .i64 0, .int .i64 1])), (36, V (.agg #[.int .i64 1, .int .i64 0]))], []⟩) (by kernel_rfl) ?_
  intro a hS
  refine op1 (lit (E := 68) (col := 0) (T := tP2) (vals := [.agg #[.int .i64 0, .int .i64 1], .agg #[.int .i64 1, .int .i64 0]]) (ys := [(0, 1), (1, 0)]) T hS (by kernel_rfl) (by kernel_rfl) (by kernel_rfl) (by kernel_rfl) (by exact ⟨rfl, rfl, trivial⟩) rfl (by kernel_rfl) (by kernel_rfl) (by kernel_rfl) (by kernel_rfl) ?_)
  intro b147 a w148 χ149 hE h150 hN hS
  clear hN
  replace hO := hO.mv hE rfl rfl
  replace h111 := h111.mv hE rfl
  replace h146 := h146.mv hE rfl
  clear hE
  replace h150 := h150.rs0
  refine op1 (call hS (by kernel_rfl) (by kernel_rfl) hb40 (by kernel_rfl) (fun _ _ => rfl) (k40 _ _ 2 [(0, 1), (1, 0)] (some ⟨b147, 0, none⟩) 2 h150) ?_)
  intro v151 a w152 χ153 hE hp hS
  replace hO := hO.mv hE rfl rfl
  replace h111 := h111.mv hE rfl
  replace h146 := h146.mv hE rfl
  replace h150 := h150.mv hE rfl
  clear hE
  obtain ⟨a155, c156, hp, h157⟩ := hp
  obtain ⟨r154, hr⟩ : ∃ r, times_Sort 2 [(0, 1), (1, 0)] = r := ⟨_, rfl⟩
  replace hm := hm r154 hr
  rw [hr] at hp h157
  clear hr
  subst hp
  replace hm := hm (h157.sm (by kernel_rfl))
  refine endP T hS (sp := []) (ks := [1, 2, 3, 4, 5, 6, 7, 9]) (bs := []) (sy' := ⟨[(1, V (.slice a109 r108.length c110)), (2, I r123.1), (3, B r123.2), (4, I r135.1), (5, B r135.2), (6, V (.slice a144 r143.1.length c145)), (7, B r143.2), (9, B r154.2)], []⟩) (by kernel_rfl) ?_
  intro a hS
  refine regO ?_
  refine opsP T hS 1 (sp := []) (ks := [2, 3, 4, 5, 6, 7, 9, 41]) (bs := []) (sy' := ⟨[(2, I r123.1), (3, B r123.2), (4, I r135.1), (5, B r135.2), (6, V (.slice a144 r143.1.length c145)), (7, B r143.2), (9, B r154.2), (41, V (.slice a109 r108.length c110))], []⟩) (by kernel_rfl) ?_
  intro a hS
  refine op1 (lit (E := 3) (col := 0) (T := tI) (vals := [.int .i64 (-2), .int .i64 (-3)]) (ys := [(-2), (-3)]) T hS (by kernel_rfl) (by kernel_rfl) (by kernel_rfl) (by kernel_rfl) (by exact ⟨rfl, rfl, trivial⟩) rfl (by kernel_rfl) (by kernel_rfl) (by kernel_rfl) (by kernel_rfl) ?_)
  intro b158 a w159 χ160 hE h161 hN hS
  clear hN
  replace hO := hO.mv hE rfl rfl
  replace h111 := h111.mv hE rfl
  replace h146 := h146.mv hE rfl
  clear hE
  replace h161 := h161.rs0
  refine op1 (lit (E := 42) (col := 0) (T := (tSlice tI)) (vals := [.slice (some ⟨b158, 0, none⟩) [(-2), (-3)].length 2]) (ys := [[(-2), (-3)]]) T hS (by kernel_rfl) (by kernel_rfl) (by kernel_rfl) (by kernel_rfl) (by exact ⟨⟨(some ⟨b158, 0, none⟩), 2, rfl, h161⟩, trivial⟩) rfl (by kernel_rfl) (by kernel_rfl) (by kernel_rfl) (by kernel_rfl) ?_)
  intro b162 a w163 χ164 hE h165 hN hS
  clear hN
  replace hO := hO.mv hE rfl rfl
  replace h111 := h111.mv hE rfl
  replace h146 := h146.mv hE rfl
  replace h161 := h161.mv hE rfl
  clear hE
  replace h165 := h165.rs0
  refine op1 (call hS (by kernel_rfl) (by kernel_rfl) hb31 (by kernel_rfl) (fun _ _ => rfl) (k31 _ _ r108 [[(-2), (-3)]] a109 c110 (some ⟨b162, 0, none⟩) 1 h111 h165) ?_)
  intro v166 a w167 χ168 hE hp hS
  replace hO := hO.mv hE rfl rfl
  replace h111 := h111.mv hE rfl
  replace h146 := h146.mv hE rfl
  replace h161 := h161.mv hE rfl
  replace h165 := h165.mv hE rfl
  clear hE
  obtain ⟨r169, hr⟩ : ∃ r, ref04_SameRows r108 [[(-2), (-3)]] = r := ⟨_, rfl⟩
  replace hm := hm r169 hr
  rw [hr] at hp
  clear hr
  subst hp
  refine opsP T hS 19 (sp := [45, 49, 53, 57, 60]) (ks := [6, 9, 63]) (bs := []) (sy' := ⟨[(6, V (.slice a144 r143.1.length c145)), (9, B r154.2), (63, B (((((r169 && (r123.1 == 0)) && (!r123.2)) && (r135.1 == 1)) && r135.2) && r143.2))], []⟩) (by kernel_rfl) ?_
  intro a hS
  rcases Bool.eq_false_or_eq_true (((((r169 && (r123.1 == 0)) && (!r123.2)) && (r135.1 == 1)) && r135.2) && r143.2) with hb | hb
  · replace hS := hS.lit (t := 63) (by kernel_rfl) hb
    replace hm := hm.1 hb
    refine opsP T hS 1 (sp := []) (ks := [9, 63, 64]) (bs := []) (sy' := ⟨[(9, B r154.2), (63, B true), (64, V (.slice a144 r143.1.length c145))], []⟩) (by kernel_rfl) ?_
    intro a hS
    refine op1 (lit (E := 3) (col := 0) (T := tI) (vals := [.int .i64 1, .int .i64 2, .int .i64 0]) (ys := [1, 2, 0]) T hS (by kernel_rfl) (by kernel_rfl) (by kernel_rfl) (by kernel_rfl) (by exact ⟨rfl, rfl, rfl, trivial⟩) rfl (by kernel_rfl) (by kernel_rfl) (by kernel_rfl) (by kernel_rfl) ?_)
    intro b170 a w171 χ172 hE h173 hN hS
    clear hN
    replace hO := hO.mv hE rfl rfl
    replace h146 := h146.mv hE rfl
    clear hE
    replace h173 := h173.rs0
    refine op1 (call hS (by kernel_rfl) (by kernel_rfl) hb34 (by kernel_rfl) (fun _ _ => rfl) (k34 _ _ r143.1 [1, 2, 0] a144 c145 (some ⟨b170, 0, none⟩) 3 h146 h173) ?_)
    intro v174 a w175 χ176 hE hp hS
    replace hO := hO.mv hE rfl rfl
    replace h146 := h146.mv hE rfl
    replace h173 := h173.mv hE rfl
    clear hE
    obtain ⟨r177, hr⟩ : ∃ r, ref01_SameInts r143.1 [1, 2, 0] = r := ⟨_, rfl⟩
    replace hm := hm r177 hr
    rw [hr] at hp
    clear hr
    subst hp
    refine endP T hS (sp := [68]) (ks := [0]) (bs := []) (sy' := ⟨[(0, B (r177 && (!r154.2)))], []⟩) (by kernel_rfl) ?_
    intro a hS
    refine wret ?_
    exact fin T hS hO (fun c => c) rfl (r := [.bool (r177 && (!r154.2))]) (by kernel_rfl) (fun χ' hM hC => ⟨(r177 && (!r154.2)), hm, rfl⟩)
  · replace hS := hS.lit (t := 63) (by kernel_rfl) hb
    replace hm := hm.2 hb
    refine endP T hS (sp := []) (ks := [0]) (bs := []) (sy' := ⟨[(0, B false)], []⟩) (by kernel_rfl) ?_
    intro a hS
    refine wret ?_
    exact fin T hS hO (fun c => c) rfl (r := [.bool false]) (by kernel_rfl) (fun χ' hM hC => ⟨false, hm, rfl⟩)
theorem C37 (k31 : S31) (k34 : S34) (k38 : S38) (k40 : S40) (k42 : S42) (v : ∀ (_ : Unit), VC37 (fun r => r = law33_awake)) : S37 := by
  intro w χ     
  refine (W37 k31 k34 k38 k40 k42 w χ     _ (v ())).mono ?_
  rintro _ _ _ _ ⟨r, rfl, h⟩
  exact h
end Go.Proofs.Ytlpcjbjlgeaapaa
