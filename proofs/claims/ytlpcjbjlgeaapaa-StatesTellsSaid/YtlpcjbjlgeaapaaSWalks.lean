/- Walks: each function returns what its condition asks. Condition: the contracts of its callees, handed in. -/
import Derived.Test.YtlpcjbjlgeaapaaSVC
import Derived.Test.YtlpcjbjlgeaapaaSReps
set_option linter.all false
namespace Go.Proofs.Ytlpcjbjlgeaapaa
open Go Go.Sv
set_option maxHeartbeats 1000000
def S21 : Prop := ∀ (w : World) (χ : Nat → Nat) (s_ : Numbering_Size), Ret Try.prog 21 #[.agg #[.int .i64 s_.Ops, .int .i64 s_.States]] xnone w χ (fun w χ' v => v = .int .i64 (numbering_Check s_))
theorem hb21 : hasBody Try.prog 21 = true := by kernel_rfl
/-- replevin/numbering.Check -/
theorem W21 (w0 : World) (χ0 : Nat → Nat) (s_ : Numbering_Size) (Q : Int → Prop) (hm : VC21 s_ Q) :
    Ret Try.prog 21 #[.agg #[.int .i64 s_.Ops, .int .i64 s_.States]] xnone w0 χ0 (fun w χ' v => ∃ r, Q r ∧ v = .int .i64 r) := by
  unfold VC21 at hm
  refine enter Try.func21 rfl (vals := [.agg #[.int .i64 s_.Ops, .int .i64 s_.States]]) (by kernel_rfl) ?_
  intro ρ a hS hO hM
  clear hM
  refine regM T hS (sp := []) (ks := [1]) (bs := [2]) (sy' := ⟨[(1, Pt 2 0)], [(2, (23, [I s_.Ops, I s_.States]))]⟩) (by kernel_rfl) ?_
  intro ρ a w101 χ102 hS hE hr
  replace hO := hO.mv hE rfl rfl
  clear hE hr
  refine wseq ?_
  refine regP T hS (sp := [6, 11, 16]) (ks := [20]) (bs := []) (sy' := ⟨[(20, B ((((decide (s_.Ops < 0)) || (decide (s_.Ops > 64))) || (decide (s_.States < 1))) || (decide (s_.States > 32))))], []⟩) (by kernel_rfl) ?_
  intro a hS
  refine wcond hS (b := ((((decide (s_.Ops < 0)) || (decide (s_.Ops > 64))) || (decide (s_.States < 1))) || (decide (s_.States > 32)))) (by kernel_rfl) (fun hb => ?_) (fun hb => ?_)
  · replace hm := hm.1 hb
    refine regP T hS (sp := []) (ks := [2]) (bs := []) (sy' := ⟨[(2, I 2)], []⟩) (by kernel_rfl) ?_
    intro a hS
    refine wret ?_
    exact fin T hS hO (fun c => c) rfl (r := [.int .i64 2]) (by kernel_rfl) (fun χ' hM hC => ⟨2, hm, rfl⟩)
  · replace hm := hm.2 hb
    refine wskip ?_
    refine regP T hS (sp := []) (ks := [2]) (bs := []) (sy' := ⟨[(2, I 0)], []⟩) (by kernel_rfl) ?_
    intro a hS
    refine wret ?_
    exact fin T hS hO (fun c => c) rfl (r := [.int .i64 0]) (by kernel_rfl) (fun χ' hM hC => ⟨0, hm, rfl⟩)
theorem C21 (v : ∀ (s_ : Numbering_Size), VC21 s_ (fun r => r = numbering_Check s_)) : S21 := by
  intro w χ s_    
  refine (W21 w χ s_    _ (v s_)).mono ?_
  rintro _ _ _ _ ⟨r, rfl, h⟩
  exact h
def S22 : Prop := ∀ (w : World) (χ : Nat → Nat) (ops : Int) (states : Int), Ret Try.prog 22 #[.int .i64 ops, .int .i64 states] xnone w χ (fun w χ' v => v = .int .i64 (ref31_Check ops states))
theorem hb22 : hasBody Try.prog 22 = true := by kernel_rfl
/-- replevin/replevinref31.Check -/
theorem W22 (w0 : World) (χ0 : Nat → Nat) (ops : Int) (states : Int) (Q : Int → Prop) (hm : VC22 ops states Q) :
    Ret Try.prog 22 #[.int .i64 ops, .int .i64 states] xnone w0 χ0 (fun w χ' v => ∃ r, Q r ∧ v = .int .i64 r) := by
  unfold VC22 at hm
  refine enter Try.func22 rfl (vals := [.int .i64 ops, .int .i64 states]) (by kernel_rfl) ?_
  intro ρ a hS hO hM
  clear hM
  refine regP T hS (sp := []) (ks := [0, 1]) (bs := []) (sy' := ⟨[(0, I ops), (1, I states)], []⟩) (by kernel_rfl) ?_
  intro a hS
  refine wseq ?_
  refine regP T hS (sp := [7, 11, 15]) (ks := [18]) (bs := []) (sy' := ⟨[(18, B ((((decide (ops < 0)) || (decide (ops > 64))) || (decide (states < 1))) || (decide (states > 32))))], []⟩) (by kernel_rfl) ?_
  intro a hS
  refine wcond hS (b := ((((decide (ops < 0)) || (decide (ops > 64))) || (decide (states < 1))) || (decide (states > 32)))) (by kernel_rfl) (fun hb => ?_) (fun hb => ?_)
  · replace hm := hm.1 hb
    refine regP T hS (sp := []) (ks := [4]) (bs := []) (sy' := ⟨[(4, I 2)], []⟩) (by kernel_rfl) ?_
    intro a hS
    refine wret ?_
    exact fin T hS hO (fun c => c) rfl (r := [.int .i64 2]) (by kernel_rfl) (fun χ' hM hC => ⟨2, hm, rfl⟩)
  · replace hm := hm.2 hb
    refine wskip ?_
    refine regP T hS (sp := []) (ks := [4]) (bs := []) (sy' := ⟨[(4, I 0)], []⟩) (by kernel_rfl) ?_
    intro a hS
    refine wret ?_
    exact fin T hS hO (fun c => c) rfl (r := [.int .i64 0]) (by kernel_rfl) (fun χ' hM hC => ⟨0, hm, rfl⟩)
theorem C22 (v : ∀ (ops : Int) (states : Int), VC22 ops states (fun r => r = ref31_Check ops states)) : S22 := by
  intro w χ ops states    
  refine (W22 w χ ops states    _ (v ops states)).mono ?_
  rintro _ _ _ _ ⟨r, rfl, h⟩
  exact h
def S56 : Prop := ∀ (w : World) (χ : Nat → Nat) (s_ : Numbering_Size) (kind : Int), Ret Try.prog 56 #[.agg #[.int .i64 s_.Ops, .int .i64 s_.States], .int .i64 kind] xnone w χ (fun w χ' v => v = .tuple #[.int .i64 ((numbering_Size_block s_ kind).1), .int .i64 ((numbering_Size_block s_ kind).2.1), .int .i64 ((numbering_Size_block s_ kind).2.2)])
theorem hb56 : hasBody Try.prog 56 = true := by kernel_rfl
/-- (replevin/numbering.Size).block -/
theorem W56 (w0 : World) (χ0 : Nat → Nat) (s_ : Numbering_Size) (kind : Int) (Q : Int × Int × Int → Prop) (hm : VC56 s_ kind Q) :
    Ret Try.prog 56 #[.agg #[.int .i64 s_.Ops, .int .i64 s_.States], .int .i64 kind] xnone w0 χ0 (fun w χ' v => ∃ r, Q r ∧ v = .tuple #[.int .i64 r.1, .int .i64 r.2.1, .int .i64 r.2.2]) := by
  unfold VC56 at hm
  refine enter Try.func56 rfl (vals := [.agg #[.int .i64 s_.Ops, .int .i64 s_.States], .int .i64 kind]) (by kernel_rfl) ?_
  intro ρ a hS hO hM
  clear hM
  refine regM T hS (sp := []) (ks := [1, 2]) (bs := [3]) (sy' := ⟨[(1, I kind), (2, Pt 3 0)], [(3, (23, [I s_.Ops, I s_.States]))]⟩) (by kernel_rfl) ?_
  intro ρ a w104 χ105 hS hE hr
  replace hO := hO.mv hE rfl rfl
  clear hE hr
  refine wseq ?_
  refine regP T hS (sp := []) (ks := [2, 7]) (bs := [3]) (sy' := ⟨[(2, Pt 3 0), (7, I kind)], [(3, (23, [I s_.Ops, I s_.States]))]⟩) (by kernel_rfl) ?_
  intro a hS
  refine wblock ?_
  refine regP T hS (sp := []) (ks := [2, 7, 8]) (bs := [3]) (sy' := ⟨[(2, Pt 3 0), (7, I kind), (8, B (kind == 1))], [(3, (23, [I s_.Ops, I s_.States]))]⟩) (by kernel_rfl) ?_
  intro a hS
  refine wcond hS (b := (kind == 1)) (by kernel_rfl) (fun hb => ?_) (fun hb => ?_)
  · replace hm := hm.1 hb
    refine drawnS [3] mixed hS ?_
    intro w101 hS hE hD hH
    replace hO := hO.mv hE rfl rfl
    clear hE
    refine take T [0, 2, 4, 1, 3, 5, 6] [3] [4, 5, 6] hS (by kernel_rfl) (by kernel_rfl) (by kernel_rfl) hH (listed' := #[true, true, true, true, true, true, true]) (fuel := 0) (sy' := ⟨[(4, I 0), (5, I s_.Ops), (6, I s_.Ops)], [(3, (23, [I s_.Ops, I s_.States]))]⟩) (by kernel_rfl) (by rfl) ?_
    intro a hS
    refine drawnDone (by kernel_rfl) ?_
    clear hD hH
    replace hS := hS.sel [4, 5, 6] [] (sy' := ⟨[(4, I 0), (5, I s_.Ops), (6, I s_.Ops)], []⟩) (by kernel_rfl)
    refine wret ?_
    exact fin T hS hO (fun c => c) rfl (r := [.int .i64 0, .int .i64 s_.Ops, .int .i64 s_.Ops]) (by kernel_rfl) (fun χ' hM hC => ⟨(0, s_.Ops, s_.Ops), hm, rfl⟩)
  · replace hm := hm.2 hb
    refine regP T hS (sp := []) (ks := [2, 14]) (bs := [3]) (sy' := ⟨[(2, Pt 3 0), (14, B (kind == 2))], [(3, (23, [I s_.Ops, I s_.States]))]⟩) (by kernel_rfl) ?_
    intro a hS
    refine wcond hS (b := (kind == 2)) (by kernel_rfl) (fun hb => ?_) (fun hb => ?_)
    · replace hm := hm.1 hb
      refine drawnS [3] mixed hS ?_
      intro w102 hS hE hD hH
      replace hO := hO.mv hE rfl rfl
      clear hE
      refine take T [0, 2, 5, 1, 3, 6, 4, 7, 8, 9] [3] [4, 5, 6] hS (by kernel_rfl) (by kernel_rfl) (by kernel_rfl) hH (listed' := #[true, true, true, true, true, true, true, true, true, true]) (fuel := 0) (sy' := ⟨[(4, I (IntKind.i64.wrap (s_.Ops * s_.Ops))), (5, I 1), (6, I s_.Ops)], [(3, (23, [I s_.Ops, I s_.States]))]⟩) (by kernel_rfl) (by rfl) ?_
      intro a hS
      refine drawnDone (by kernel_rfl) ?_
      clear hD hH
      replace hS := hS.sel [4, 5, 6] [] (sy' := ⟨[(4, I (IntKind.i64.wrap (s_.Ops * s_.Ops))), (5, I 1), (6, I s_.Ops)], []⟩) (by kernel_rfl)
      refine wret ?_
      exact fin T hS hO (fun c => c) rfl (r := [.int .i64 (IntKind.i64.wrap (s_.Ops * s_.Ops)), .int .i64 1, .int .i64 s_.Ops]) (by kernel_rfl) (fun χ' hM hC => ⟨(IntKind.i64.wrap (s_.Ops * s_.Ops), 1, s_.Ops), hm, rfl⟩)
    · replace hm := hm.2 hb
      refine wskip ?_
      refine drawnS [3] mixed hS ?_
      intro w103 hS hE hD hH
      replace hO := hO.mv hE rfl rfl
      clear hE
      refine take T [0, 2, 5, 8, 10, 1, 3, 6, 9, 11, 4, 12, 7, 13, 14, 15] [3] [4, 5, 6] hS (by kernel_rfl) (by kernel_rfl) (by kernel_rfl) hH (listed' := #[true, true, true, true, true, true, true, true, true, true, true, true, true, true, true, true]) (fuel := 0) (sy' := ⟨[(4, I (IntKind.i64.wrap ((IntKind.i64.wrap (s_.Ops * s_.Ops)) + s_.Ops))), (5, I s_.States), (6, I (IntKind.i64.wrap (s_.Ops + 1)))], [(3, (23, [I s_.Ops, I s_.States]))]⟩) (by kernel_rfl) (by rfl) ?_
      intro a hS
      refine drawnDone (by kernel_rfl) ?_
      clear hD hH
      replace hS := hS.sel [4, 5, 6] [] (sy' := ⟨[(4, I (IntKind.i64.wrap ((IntKind.i64.wrap (s_.Ops * s_.Ops)) + s_.Ops))), (5, I s_.States), (6, I (IntKind.i64.wrap (s_.Ops + 1)))], []⟩) (by kernel_rfl)
      refine wret ?_
      exact fin T hS hO (fun c => c) rfl (r := [.int .i64 (IntKind.i64.wrap ((IntKind.i64.wrap (s_.Ops * s_.Ops)) + s_.Ops)), .int .i64 s_.States, .int .i64 (IntKind.i64.wrap (s_.Ops + 1))]) (by kernel_rfl) (fun χ' hM hC => ⟨(IntKind.i64.wrap ((IntKind.i64.wrap (s_.Ops * s_.Ops)) + s_.Ops), s_.States, IntKind.i64.wrap (s_.Ops + 1)), hm, rfl⟩)
theorem C56 (v : ∀ (s_ : Numbering_Size) (kind : Int), VC56 s_ kind (fun r => r = numbering_Size_block s_ kind)) : S56 := by
  intro w χ s_ kind    
  refine (W56 w χ s_ kind    _ (v s_ kind)).mono ?_
  rintro _ _ _ _ ⟨r, rfl, h⟩
  exact h
def S23 : Prop := ∀ (w : World) (χ : Nat → Nat) (s_ : Numbering_Size), Ret Try.prog 23 #[.agg #[.int .i64 s_.Ops, .int .i64 s_.States]] xnone w χ (fun w χ' v => v = .int .i64 (numbering_Vars s_))
theorem hb23 : hasBody Try.prog 23 = true := by kernel_rfl
/-- replevin/numbering.Vars -/
theorem W23 (k21 : S21) (k56 : S56) (w0 : World) (χ0 : Nat → Nat) (s_ : Numbering_Size) (Q : Int → Prop) (hm : VC23 s_ Q) :
    Ret Try.prog 23 #[.agg #[.int .i64 s_.Ops, .int .i64 s_.States]] xnone w0 χ0 (fun w χ' v => ∃ r, Q r ∧ v = .int .i64 r) := by
  unfold VC23 at hm
  refine enter Try.func23 rfl (vals := [.agg #[.int .i64 s_.Ops, .int .i64 s_.States]]) (by kernel_rfl) ?_
  intro ρ a hS hO hM
  clear hM
  refine regM T hS (sp := []) (ks := [1]) (bs := [2]) (sy' := ⟨[(1, Pt 2 0)], [(2, (23, [I s_.Ops, I s_.States]))]⟩) (by kernel_rfl) ?_
  intro ρ a w109 χ110 hS hE hr
  replace hO := hO.mv hE rfl rfl
  clear hE hr
  refine wseq ?_
  refine regO ?_
  refine opsP T hS 1 (sp := []) (ks := [1, 6]) (bs := [2]) (sy' := ⟨[(1, Pt 2 0), (6, V (.agg #[.int .i64 s_.Ops, .int .i64 s_.States]))], [(2, (23, [I s_.Ops, I s_.States]))]⟩) (by kernel_rfl) ?_
  intro a hS
  refine op1 (call hS (by kernel_rfl) (by kernel_rfl) hb21 (by kernel_rfl) (fun _ _ => rfl) (k21 _ _ s_) ?_)
  intro v101 a w102 χ103 hE hp hS
  replace hO := hO.mv hE rfl rfl
  clear hE
  obtain ⟨r104, hr⟩ : ∃ r, numbering_Check s_ = r := ⟨_, rfl⟩
  replace hm := hm r104 hr
  rw [hr] at hp
  clear hr
  subst hp
  refine endP T hS (sp := []) (ks := [1, 8]) (bs := [2]) (sy' := ⟨[(1, Pt 2 0), (8, B (r104 != 0))], [(2, (23, [I s_.Ops, I s_.States]))]⟩) (by kernel_rfl) ?_
  intro a hS
  refine wcond hS (b := (r104 != 0)) (by kernel_rfl) (fun hb => ?_) (fun hb => ?_)
  · replace hm := hm.1 hb
    refine regP T hS (sp := []) (ks := [2]) (bs := []) (sy' := ⟨[(2, I 0)], []⟩) (by kernel_rfl) ?_
    intro a hS
    refine wret ?_
    exact fin T hS hO (fun c => c) rfl (r := [.int .i64 0]) (by kernel_rfl) (fun χ' hM hC => ⟨0, hm, rfl⟩)
  · replace hm := hm.2 hb
    refine wskip ?_
    refine regO ?_
    refine opsP T hS 1 (sp := []) (ks := [10]) (bs := []) (sy' := ⟨[(10, V (.agg #[.int .i64 s_.Ops, .int .i64 s_.States]))], []⟩) (by kernel_rfl) ?_
    intro a hS
    refine op1 (call hS (by kernel_rfl) (by kernel_rfl) hb56 (by kernel_rfl) (fun _ _ => rfl) (k56 _ _ s_ 3) ?_)
    intro v105 a w106 χ107 hE hp hS
    replace hO := hO.mv hE rfl rfl
    clear hE
    obtain ⟨r108, hr⟩ : ∃ r, numbering_Size_block s_ 3 = r := ⟨_, rfl⟩
    replace hm := hm r108 hr
    rw [hr] at hp
    clear hr
    subst hp
    refine endP T hS (sp := []) (ks := [3, 4, 5]) (bs := []) (sy' := ⟨[(3, I r108.1), (4, I r108.2.1), (5, I r108.2.2)], []⟩) (by kernel_rfl) ?_
    intro a hS
    refine regP T hS (sp := []) (ks := [2]) (bs := []) (sy' := ⟨[(2, I (IntKind.i64.wrap (r108.1 + (IntKind.i64.wrap (r108.2.1 * r108.2.2)))))], []⟩) (by kernel_rfl) ?_
    intro a hS
    refine wret ?_
    exact fin T hS hO (fun c => c) rfl (r := [.int .i64 (IntKind.i64.wrap (r108.1 + (IntKind.i64.wrap (r108.2.1 * r108.2.2))))]) (by kernel_rfl) (fun χ' hM hC => ⟨(IntKind.i64.wrap (r108.1 + (IntKind.i64.wrap (r108.2.1 * r108.2.2)))), hm, rfl⟩)
theorem C23 (k21 : S21) (k56 : S56) (v : ∀ (s_ : Numbering_Size), VC23 s_ (fun r => r = numbering_Vars s_)) : S23 := by
  intro w χ s_    
  refine (W23 k21 k56 w χ s_    _ (v s_)).mono ?_
  rintro _ _ _ _ ⟨r, rfl, h⟩
  exact h
def S24 : Prop := ∀ (w : World) (χ : Nat → Nat) (s_ : Numbering_Size) (n_ : Numbering_Name), Ret Try.prog 24 #[.agg #[.int .i64 s_.Ops, .int .i64 s_.States], .agg #[.int .i64 n_.Kind, .int .i64 n_.A, .int .i64 n_.B]] xnone w χ (fun w χ' v => v = .int .i64 (numbering_Var s_ n_))
theorem hb24 : hasBody Try.prog 24 = true := by kernel_rfl
/-- replevin/numbering.Var -/
theorem W24 (k21 : S21) (k56 : S56) (w0 : World) (χ0 : Nat → Nat) (s_ : Numbering_Size) (n_ : Numbering_Name) (Q : Int → Prop) (hm : VC24 s_ n_ Q) :
    Ret Try.prog 24 #[.agg #[.int .i64 s_.Ops, .int .i64 s_.States], .agg #[.int .i64 n_.Kind, .int .i64 n_.A, .int .i64 n_.B]] xnone w0 χ0 (fun w χ' v => ∃ r, Q r ∧ v = .int .i64 r) := by
  unfold VC24 at hm
  refine enter Try.func24 rfl (vals := [.agg #[.int .i64 s_.Ops, .int .i64 s_.States], .agg #[.int .i64 n_.Kind, .int .i64 n_.A, .int .i64 n_.B]]) (by kernel_rfl) ?_
  intro ρ a hS hO hM
  clear hM
  refine regM T hS (sp := []) (ks := [2, 3]) (bs := [3, 4]) (sy' := ⟨[(2, Pt 3 0), (3, Pt 4 0)], [(3, (23, [I s_.Ops, I s_.States])), (4, (25, [I n_.Kind, I n_.A, I n_.B]))]⟩) (by kernel_rfl) ?_
  intro ρ a w109 χ110 hS hE hr
  replace hO := hO.mv hE rfl rfl
  clear hE hr
  refine wseq ?_
  refine regO ?_
  refine opsP T hS 1 (sp := []) (ks := [2, 3, 9]) (bs := [3, 4]) (sy' := ⟨[(2, Pt 3 0), (3, Pt 4 0), (9, V (.agg #[.int .i64 s_.Ops, .int .i64 s_.States]))], [(3, (23, [I s_.Ops, I s_.States])), (4, (25, [I n_.Kind, I n_.A, I n_.B]))]⟩) (by kernel_rfl) ?_
  intro a hS
  refine op1 (call hS (by kernel_rfl) (by kernel_rfl) hb21 (by kernel_rfl) (fun _ _ => rfl) (k21 _ _ s_) ?_)
  intro v101 a w102 χ103 hE hp hS
  replace hO := hO.mv hE rfl rfl
  clear hE
  obtain ⟨r104, hr⟩ : ∃ r, numbering_Check s_ = r := ⟨_, rfl⟩
  replace hm := hm r104 hr
  rw [hr] at hp
  clear hr
  subst hp
  refine endP T hS (sp := [12, 17]) (ks := [2, 3, 21]) (bs := [3, 4]) (sy' := ⟨[(2, Pt 3 0), (3, Pt 4 0), (21, B (((r104 != 0) || (decide (n_.Kind ≤ 0))) || (decide (n_.Kind > 3))))], [(3, (23, [I s_.Ops, I s_.States])), (4, (25, [I n_.Kind, I n_.A, I n_.B]))]⟩) (by kernel_rfl) ?_
  intro a hS
  refine wcond hS (b := (((r104 != 0) || (decide (n_.Kind ≤ 0))) || (decide (n_.Kind > 3)))) (by kernel_rfl) (fun hb => ?_) (fun hb => ?_)
  · replace hm := hm.1 hb
    refine regP T hS (sp := []) (ks := [4]) (bs := []) (sy' := ⟨[(4, I 0)], []⟩) (by kernel_rfl) ?_
    intro a hS
    refine wret ?_
    exact fin T hS hO (fun c => c) rfl (r := [.int .i64 0]) (by kernel_rfl) (fun χ' hM hC => ⟨0, hm, rfl⟩)
  · replace hm := hm.2 hb
    refine wskip ?_
    refine regP T hS (sp := []) (ks := [3, 5]) (bs := [4]) (sy' := ⟨[(3, Pt 4 0), (5, .f (.func 56) [.v (.agg #[.int .i64 s_.Ops, .int .i64 s_.States])] [])], [(4, (25, [I n_.Kind, I n_.A, I n_.B]))]⟩) (by kernel_rfl) ?_
    intro a hS
    refine regO ?_
    refine opsP T hS 3 (sp := []) (ks := [3, 25, 27]) (bs := [4]) (sy' := ⟨[(3, Pt 4 0), (25, .f (.func 56) [.v (.agg #[.int .i64 s_.Ops, .int .i64 s_.States])] []), (27, I n_.Kind)], [(4, (25, [I n_.Kind, I n_.A, I n_.B]))]⟩) (by kernel_rfl) ?_
    intro a hS
    refine op1 (callC (fi := [.v (.agg #[.int .i64 s_.Ops, .int .i64 s_.States])]) (cp := []) hS (by kernel_rfl) (by kernel_rfl) hb56 (by kernel_rfl) (by kernel_rfl) (fun _ _ => rfl) (k56 _ _ s_ n_.Kind) ?_)
    intro v105 a w106 χ107 hE hp hS
    replace hO := hO.mv hE rfl rfl
    clear hE
    obtain ⟨r108, hr⟩ : ∃ r, numbering_Size_block s_ n_.Kind = r := ⟨_, rfl⟩
    replace hm := hm r108 hr
    rw [hr] at hp
    clear hr
    subst hp
    refine endP T hS (sp := []) (ks := [3, 6, 7, 8]) (bs := [4]) (sy' := ⟨[(3, Pt 4 0), (6, I r108.1), (7, I r108.2.1), (8, I r108.2.2)], [(4, (25, [I n_.Kind, I n_.A, I n_.B]))]⟩) (by kernel_rfl) ?_
    intro a hS
    refine wseq ?_
    refine regP T hS (sp := [35, 41, 46]) (ks := [3, 6, 7, 51]) (bs := [4]) (sy' := ⟨[(3, Pt 4 0), (6, I r108.1), (7, I r108.2.1), (51, B ((((decide (n_.A < 0)) || (decide (n_.A ≥ r108.2.2))) || (decide (n_.B < 0))) || (decide (n_.B ≥ r108.2.1))))], [(4, (25, [I n_.Kind, I n_.A, I n_.B]))]⟩) (by kernel_rfl) ?_
    intro a hS
    refine wcond hS (b := ((((decide (n_.A < 0)) || (decide (n_.A ≥ r108.2.2))) || (decide (n_.B < 0))) || (decide (n_.B ≥ r108.2.1)))) (by kernel_rfl) (fun hb => ?_) (fun hb => ?_)
    · replace hm := hm.1 hb
      refine regP T hS (sp := []) (ks := [4]) (bs := []) (sy' := ⟨[(4, I 0)], []⟩) (by kernel_rfl) ?_
      intro a hS
      refine wret ?_
      exact fin T hS hO (fun c => c) rfl (r := [.int .i64 0]) (by kernel_rfl) (fun χ' hM hC => ⟨0, hm, rfl⟩)
    · replace hm := hm.2 hb
      refine wskip ?_
      refine regP T hS (sp := []) (ks := [4]) (bs := []) (sy' := ⟨[(4, I (IntKind.i64.wrap ((IntKind.i64.wrap ((IntKind.i64.wrap (r108.1 + (IntKind.i64.wrap (n_.A * r108.2.1)))) + n_.B)) + 1)))], []⟩) (by kernel_rfl) ?_
      intro a hS
      refine wret ?_
      exact fin T hS hO (fun c => c) rfl (r := [.int .i64 (IntKind.i64.wrap ((IntKind.i64.wrap ((IntKind.i64.wrap (r108.1 + (IntKind.i64.wrap (n_.A * r108.2.1)))) + n_.B)) + 1))]) (by kernel_rfl) (fun χ' hM hC => ⟨(IntKind.i64.wrap ((IntKind.i64.wrap ((IntKind.i64.wrap (r108.1 + (IntKind.i64.wrap (n_.A * r108.2.1)))) + n_.B)) + 1)), hm, rfl⟩)
theorem C24 (k21 : S21) (k56 : S56) (v : ∀ (s_ : Numbering_Size) (n_ : Numbering_Name), VC24 s_ n_ (fun r => r = numbering_Var s_ n_)) : S24 := by
  intro w χ s_ n_    
  refine (W24 k21 k56 w χ s_ n_    _ (v s_ n_)).mono ?_
  rintro _ _ _ _ ⟨r, rfl, h⟩
  exact h
def S59 : Prop := ∀ (w : World) (χ : Nat → Nat) (s_ : Numbering_Size) (a_ : Int) (b_ : Int), Ret Try.prog 59 #[.agg #[.int .i64 s_.Ops, .int .i64 s_.States], .int .i64 a_, .int .i64 b_] xnone w χ (fun w χ' v => v = .int .i64 (states_at s_ a_ b_))
theorem hb59 : hasBody Try.prog 59 = true := by kernel_rfl
/-- replevin/states.at -/
theorem W59 (k24 : S24) (w0 : World) (χ0 : Nat → Nat) (s_ : Numbering_Size) (a_ : Int) (b_ : Int) (Q : Int → Prop) (hm : VC59 s_ a_ b_ Q) :
    Ret Try.prog 59 #[.agg #[.int .i64 s_.Ops, .int .i64 s_.States], .int .i64 a_, .int .i64 b_] xnone w0 χ0 (fun w χ' v => ∃ r, Q r ∧ v = .int .i64 r) := by
  unfold VC59 at hm
  refine enter Try.func59 rfl (vals := [.agg #[.int .i64 s_.Ops, .int .i64 s_.States], .int .i64 a_, .int .i64 b_]) (by kernel_rfl) ?_
  intro ρ a hS hO hM
  clear hM
  refine regM T hS (sp := []) (ks := [1, 2, 3]) (bs := [4]) (sy' := ⟨[(1, I a_), (2, I b_), (3, Pt 4 0)], [(4, (23, [I s_.Ops, I s_.States]))]⟩) (by kernel_rfl) ?_
  intro ρ a w105 χ106 hS hE hr
  replace hO := hO.mv hE rfl rfl
  clear hE hr
  refine regO ?_
  refine opsP T hS 4 (sp := []) (ks := [7, 10]) (bs := []) (sy' := ⟨[(7, V (.agg #[.int .i64 s_.Ops, .int .i64 s_.States])), (10, V (.agg #[.int .i64 3, .int .i64 a_, .int .i64 b_]))], []⟩) (by kernel_rfl) ?_
  intro a hS
  refine op1 (call hS (by kernel_rfl) (by kernel_rfl) hb24 (by kernel_rfl) (fun _ _ => rfl) (k24 _ _ s_ (⟨3, a_, b_⟩ : Numbering_Name)) ?_)
  intro v101 a w102 χ103 hE hp hS
  replace hO := hO.mv hE rfl rfl
  clear hE
  obtain ⟨r104, hr⟩ : ∃ r, numbering_Var s_ (⟨3, a_, b_⟩ : Numbering_Name) = r := ⟨_, rfl⟩
  replace hm := hm r104 hr
  rw [hr] at hp
  clear hr
  subst hp
  refine endP T hS (sp := []) (ks := [6]) (bs := []) (sy' := ⟨[(6, I r104)], []⟩) (by kernel_rfl) ?_
  intro a hS
  refine wret ?_
  exact fin T hS hO (fun c => c) rfl (r := [.int .i64 r104]) (by kernel_rfl) (fun χ' hM hC => ⟨r104, hm, rfl⟩)
theorem C59 (k24 : S24) (v : ∀ (s_ : Numbering_Size) (a_ : Int) (b_ : Int), VC59 s_ a_ b_ (fun r => r = states_at s_ a_ b_)) : S59 := by
  intro w χ s_ a_ b_    
  refine (W59 k24 w χ s_ a_ b_    _ (v s_ a_ b_)).mono ?_
  rintro _ _ _ _ ⟨r, rfl, h⟩
  exact h
def S58 : Prop := ∀ (w : World) (χ : Nat → Nat) (a_ : Int) (cap1 : Numbering_Size) (cap2 : List Bool) (cap3 : Bool) (a1 : Option Addr) (c1 : Nat) (b1 : Nat) (i1 : Nat) (b2 : Nat) (i2 : Nat) (b3 : Nat) (i3 : Nat), preRow1 a_ cap1 cap2 cap3 → RS tBool w χ a1 cap2 c1 → Cell w χ b1 i1 23 [.int .i64 cap1.Ops, .int .i64 cap1.States] → Cell w χ b2 i2 41 [.slice a1 cap2.length c1] → Cell w χ b3 i3 4 [.bool cap3] → Apart [i1, i2, i3] → Ret Try.prog 58 #[.int .i64 a_, .pointer (some ⟨b1, 0, none⟩), .pointer (some ⟨b2, 0, none⟩), .pointer (some ⟨b3, 0, none⟩)] (pR [i1, i2, i3]) w χ (fun w χ' v => v = .int .i64 ((states_Row_1 a_ cap1 cap2 cap3).1) ∧ Cell w χ' b1 i1 23 [.int .i64 cap1.Ops, .int .i64 cap1.States] ∧ Cell w χ' b2 i2 41 [.slice a1 cap2.length c1] ∧ Cell w χ' b3 i3 4 [.bool ((states_Row_1 a_ cap1 cap2 cap3).2)])
theorem hb58 : hasBody Try.prog 58 = true := by kernel_rfl
/-- replevin/states.Row$1 -/
theorem W58 (k59 : S59) (w0 : World) (χ0 : Nat → Nat) (a_ : Int) (cap1 : Numbering_Size) (cap2 : List Bool) (cap3 : Bool) (a1 : Option Addr) (c1 : Nat) (b1 : Nat) (i1 : Nat) (b2 : Nat) (i2 : Nat) (b3 : Nat) (i3 : Nat) (Q : Int × Bool → Prop) (hm : VC58 a_ cap1 cap2 cap3 Q) (h1 : RS tBool w0 χ0 a1 cap2 c1) (hc1 : Cell w0 χ0 b1 i1 23 [.int .i64 cap1.Ops, .int .i64 cap1.States]) (hc2 : Cell w0 χ0 b2 i2 41 [.slice a1 cap2.length c1]) (hc3 : Cell w0 χ0 b3 i3 4 [.bool cap3]) (hA : Apart [i1, i2, i3]) :
    Ret Try.prog 58 #[.int .i64 a_, .pointer (some ⟨b1, 0, none⟩), .pointer (some ⟨b2, 0, none⟩), .pointer (some ⟨b3, 0, none⟩)] (pR [i1, i2, i3]) w0 χ0 (fun w χ' v => ∃ r, Q r ∧ v = .int .i64 r.1 ∧ Cell w χ' b1 i1 23 [.int .i64 cap1.Ops, .int .i64 cap1.States] ∧ Cell w χ' b2 i2 41 [.slice a1 cap2.length c1] ∧ Cell w χ' b3 i3 4 [.bool r.2]) := by
  unfold VC58 at hm
  replace hm := hm (h1.sm (by kernel_rfl))
  refine enterR Try.func58 rfl (f0of [(i1, 901), (i2, 902), (i3, 903)]) (fun id => (bif Nat.beq id 901 then b1 else (bif Nat.beq id 902 then b2 else (bif Nat.beq id 903 then b3 else 0)))) (args := [I a_, Pt 901 0, Pt 902 0, Pt 903 0]) (bxs := [(901, (23, [I cap1.Ops, I cap1.States])), (902, (41, [V (.slice a1 cap2.length c1)])), (903, (4, [B cap3]))]) (by kernel_rfl) rfl (BoxesOK.cons (by kernel_rfl) (hc1.map (f0of_at 0 hA.1 rfl)) (BoxesOK.cons (by kernel_rfl) (hc2.map (f0of_at 1 hA.1 rfl)) (BoxesOK.cons (by kernel_rfl) (hc3.map (f0of_at 2 hA.1 rfl)) BoxesOK.nil))) (f0of_0 (fun q hq => (hA.2 q.1 (List.mem_map.2 ⟨q, hq, rfl⟩)).1)) ?_
  intro a hS hO hM
  have hP : Pin [(901, b1), (902, b2), (903, b3)] (fun id => (bif Nat.beq id 901 then b1 else (bif Nat.beq id 902 then b2 else (bif Nat.beq id 903 then b3 else 0)))) := by intro q hq; simp at hq; rcases hq with rfl | rfl | rfl <;> rfl
  generalize (fun id => (bif Nat.beq id 901 then b1 else (bif Nat.beq id 902 then b2 else (bif Nat.beq id 903 then b3 else 0)))) = ρ at hS hP
  clear hc1 hc2 hc3
  replace h1 := h1.m0 hM
  clear hM
  refine regP T hS (sp := []) (ks := [0, 1, 2, 3]) (bs := [901, 902, 903]) (sy' := ⟨[(0, I a_), (1, Pt 901 0), (2, Pt 902 0), (3, Pt 903 0)], [(901, (23, [I cap1.Ops, I cap1.States])), (902, (41, [V (.slice a1 cap2.length c1)])), (903, (4, [B cap3]))]⟩) (by kernel_rfl) ?_
  intro a hS
  refine regP T hS (sp := []) (ks := [0, 1, 2, 3, 6, 7]) (bs := [901, 902, 903]) (sy' := ⟨[(0, I a_), (1, Pt 901 0), (2, Pt 902 0), (3, Pt 903 0), (6, I 0), (7, I 0)], [(901, (23, [I cap1.Ops, I cap1.States])), (902, (41, [V (.slice a1 cap2.length c1)])), (903, (4, [B cap3]))]⟩) (by kernel_rfl) ?_
  intro a hS
  refine wcut (fun a w => ∃ (ρ : Nat → Nat) (χ : Nat → Nat) (state_101 : Int) (many_102 : Int), VC58_J1 cap3 Q state_101 many_102 ∧ St Try.f58.ntmps ⟨[(3, Pt 903 0), (6, I state_101), (7, I many_102)], [(901, (23, [I cap1.Ops, I cap1.States])), (902, (41, [V (.slice a1 cap2.length c1)])), (903, (4, [B cap3]))]⟩ ρ a w χ ∧ OldR (f0of [(i1, 901), (i2, 902), (i3, 903)]) w0 χ0 w χ ∧ Pin [(901, b1), (902, b2), (903, b3)] ρ ∧ RS tBool w χ a1 cap2 c1) ?_ ?_
  · refine regP T hS (sp := []) (ks := [0, 1, 2, 3, 6, 7, 10, 11]) (bs := [901, 902, 903]) (sy' := ⟨[(0, I a_), (1, Pt 901 0), (2, Pt 902 0), (3, Pt 903 0), (6, I 0), (7, I 0), (10, I cap1.States), (11, I 0)], [(901, (23, [I cap1.Ops, I cap1.States])), (902, (41, [V (.slice a1 cap2.length c1)])), (903, (4, [B cap3]))]⟩) (by kernel_rfl) ?_
    intro a hS
    refine wblock ?_
    obtain ⟨I1, μ1, hm0, hm⟩ := hm
    refine wloop (σ := Int × Int × Int) (fun s a w => ∃ (ρ : Nat → Nat) (χ : Nat → Nat), I1 s.1 s.2.1 s.2.2 ∧ St Try.f58.ntmps ⟨[(0, I a_), (1, Pt 901 0), (2, Pt 902 0), (3, Pt 903 0), (6, I s.1), (7, I s.2.1), (10, I cap1.States), (11, I s.2.2)], [(901, (23, [I cap1.Ops, I cap1.States])), (902, (41, [V (.slice a1 cap2.length c1)])), (903, (4, [B cap3]))]⟩ ρ a w χ ∧ OldR (f0of [(i1, 901), (i2, 902), (i3, 903)]) w0 χ0 w χ ∧ Pin [(901, b1), (902, b2), (903, b3)] ρ ∧ RS tBool w χ a1 cap2 c1) (fun s => μ1 s.1 s.2.1 s.2.2) (⟨0, 0, 0⟩) ?_ ?_
    · exact ⟨ρ, _, hm0, hS.sel [0, 1, 2, 3, 6, 7, 10, 11] [901, 902, 903] (by kernel_rfl), hO, hP, h1⟩
    · rintro ⟨state_106, many_107, x_108⟩ a w124 ⟨ρ, χ123, hI, hS, hO, hP, h109⟩
      replace hm := hm state_106 many_107 x_108 hI
      clear hI hm0
      refine regP T hS (sp := []) (ks := [0, 1, 2, 3, 6, 7, 10, 11, 12]) (bs := [901, 902, 903]) (sy' := ⟨[(0, I a_), (1, Pt 901 0), (2, Pt 902 0), (3, Pt 903 0), (6, I state_106), (7, I many_107), (10, I cap1.States), (11, I x_108), (12, B (decide (x_108 < cap1.States)))], [(901, (23, [I cap1.Ops, I cap1.States])), (902, (41, [V (.slice a1 cap2.length c1)])), (903, (4, [B cap3]))]⟩) (by kernel_rfl) ?_
      intro a hS
      refine wseq ?_
      refine wcond hS (b := decide (x_108 < cap1.States)) (by kernel_rfl) (fun hb => ?_) (fun hb => ?_)
      · replace hm := hm.1 hb
        refine wskip ?_
        refine wcut (fun a w => ∃ (ρ : Nat → Nat) (χ : Nat → Nat) (state_110 : Int) (many_111 : Int), VC58_J2 I1 μ1 state_106 many_107 x_108 state_110 many_111 ∧ St Try.f58.ntmps ⟨[(0, I a_), (1, Pt 901 0), (2, Pt 902 0), (3, Pt 903 0), (6, I state_110), (7, I many_111), (10, I cap1.States), (11, I x_108)], [(901, (23, [I cap1.Ops, I cap1.States])), (902, (41, [V (.slice a1 cap2.length c1)])), (903, (4, [B cap3]))]⟩ ρ a w χ ∧ OldR (f0of [(i1, 901), (i2, 902), (i3, 903)]) w0 χ0 w χ ∧ Pin [(901, b1), (902, b2), (903, b3)] ρ ∧ RS tBool w χ a1 cap2 c1) ?_ ?_
        · refine wblock ?_
          refine regP T hS (sp := []) (ks := [0, 1, 2, 3, 6, 7, 8, 10, 11]) (bs := [901, 902, 903]) (sy' := ⟨[(0, I a_), (1, Pt 901 0), (2, Pt 902 0), (3, Pt 903 0), (6, I state_106), (7, I many_107), (8, I x_108), (10, I cap1.States), (11, I x_108)], [(901, (23, [I cap1.Ops, I cap1.States])), (902, (41, [V (.slice a1 cap2.length c1)])), (903, (4, [B cap3]))]⟩) (by kernel_rfl) ?_
          intro a hS
          refine drawnS [901, 902, 903] mixed hS ?_
          intro w113 hS hE hD hH
          replace hO := hO.mv hE rfl rfl
          replace h109 := h109.mv hE rfl
          clear hE
          refine take T [0, 1, 2, 3] [901, 902, 903] [0, 1, 2, 3, 6, 7, 8, 10, 11, 14, 15, 16, 17] hS (by kernel_rfl) (by kernel_rfl) (by kernel_rfl) hH (listed' := #[true, true, true, true, false, false, false, false]) (fuel := 4) (sy' := ⟨[(0, I a_), (1, Pt 901 0), (2, Pt 902 0), (3, Pt 903 0), (6, I state_106), (7, I many_107), (8, I x_108), (10, I cap1.States), (11, I x_108), (14, V (.slice a1 cap2.length c1)), (15, V (.agg #[.int .i64 cap1.Ops, .int .i64 cap1.States])), (16, I a_), (17, I x_108)], [(901, (23, [I cap1.Ops, I cap1.States])), (902, (41, [V (.slice a1 cap2.length c1)])), (903, (4, [B cap3]))]⟩) (by kernel_rfl) (by rfl) ?_
          intro a hS
          refine only 4 (by kernel_rfl) (by rfl) (call hS (by kernel_rfl) (by kernel_rfl) hb59 (by kernel_rfl) (fun _ _ => rfl) (k59 _ _ cap1 a_ x_108) ?_)
          intro v114 a w115 χ116 hE hp hS
          replace hO := hO.mv hE rfl rfl
          replace hD := hD.ev hE rfl
          replace h109 := h109.mv hE rfl
          clear hE
          obtain ⟨r117, hr⟩ : ∃ r, states_at cap1 a_ x_108 = r := ⟨_, rfl⟩
          replace hm := hm r117 hr
          rw [hr] at hp
          clear hr
          subst hp
          refine andH (Hold.of hS (bks := [901, 902, 903]) (by kernel_rfl) hD) ?_
          intro hH
          refine take T [5] [901, 902, 903] [0, 1, 2, 3, 6, 7, 8, 10, 11, 14, 19] hS (by kernel_rfl) (by kernel_rfl) (by kernel_rfl) hH (listed' := #[true, true, true, true, true, true, false, false]) (fuel := 2) (sy' := ⟨[(0, I a_), (1, Pt 901 0), (2, Pt 902 0), (3, Pt 903 0), (6, I state_106), (7, I many_107), (8, I x_108), (10, I cap1.States), (11, I x_108), (14, V (.slice a1 cap2.length c1)), (19, I (IntKind.i64.wrap (r117 - 1)))], [(901, (23, [I cap1.Ops, I cap1.States])), (902, (41, [V (.slice a1 cap2.length c1)])), (903, (4, [B cap3]))]⟩) (by kernel_rfl) (by rfl) ?_
          intro a hS
          obtain ⟨hq, hm⟩ := hm
          refine only 6 (by kernel_rfl) (by rfl) (index (e := 4) (k := .i64) T hS (by kernel_rfl) (by kernel_rfl) (by kernel_rfl) (by kernel_rfl) h109 (by kernel_rfl) (by kernel_rfl) hq.1 hq.2 ?_)
          intro A118 a h119 hS
          clear hq
          refine andH (Hold.of hS (bks := [901, 902, 903]) (by kernel_rfl) hD) ?_
          intro hH
          refine only 7 (by kernel_rfl) (by rfl) (load1 T hS (by kernel_rfl) (by kernel_rfl) (by kernel_rfl) h119 rfl (by kernel_rfl) ?_)
          intro v120 a hv hS
          cases hv
          refine andH (Hold.of hS (bks := [901, 902, 903]) (by kernel_rfl) hD) ?_
          intro hH
          refine drawnDone (by kernel_rfl) ?_
          clear hD hH
          replace hS := hS.sel [0, 1, 2, 3, 6, 7, 8, 10, 11, 21] [901, 902, 903] (sy' := ⟨[(0, I a_), (1, Pt 901 0), (2, Pt 902 0), (3, Pt 903 0), (6, I state_106), (7, I many_107), (8, I x_108), (10, I cap1.States), (11, I x_108), (21, B (gi cap2 (IntKind.i64.wrap (r117 - 1))))], [(901, (23, [I cap1.Ops, I cap1.States])), (902, (41, [V (.slice a1 cap2.length c1)])), (903, (4, [B cap3]))]⟩) (by kernel_rfl)
          refine wcond hS (b := gi cap2 (IntKind.i64.wrap (r117 - 1))) (by kernel_rfl) (fun hb => ?_) (fun hb => ?_)
          · replace hm := hm.1 hb
            refine regP T hS (sp := []) (ks := [0, 1, 2, 3, 6, 7, 10, 11]) (bs := [901, 902, 903]) (sy' := ⟨[(0, I a_), (1, Pt 901 0), (2, Pt 902 0), (3, Pt 903 0), (6, I x_108), (7, I many_107), (10, I cap1.States), (11, I x_108)], [(901, (23, [I cap1.Ops, I cap1.States])), (902, (41, [V (.slice a1 cap2.length c1)])), (903, (4, [B cap3]))]⟩) (by kernel_rfl) ?_
            intro a hS
            refine region (endP T hS (sp := []) (ks := [0, 1, 2, 3, 6, 7, 10, 11]) (bs := [901, 902, 903]) (sy' := ⟨[(0, I a_), (1, Pt 901 0), (2, Pt 902 0), (3, Pt 903 0), (6, I x_108), (7, I (IntKind.i64.wrap (many_107 + 1))), (10, I cap1.States), (11, I x_108)], [(901, (23, [I cap1.Ops, I cap1.States])), (902, (41, [V (.slice a1 cap2.length c1)])), (903, (4, [B cap3]))]⟩) (by kernel_rfl) ?_)
            intro a hS
            exact ⟨ρ, _, x_108, IntKind.i64.wrap (many_107 + 1), hm, hS.sel [0, 1, 2, 3, 6, 7, 10, 11] [901, 902, 903] (by kernel_rfl), hO, hP, h109⟩
          · replace hm := hm.2 hb
            refine wskip ?_
            exact ⟨ρ, _, state_106, many_107, hm, hS.sel [0, 1, 2, 3, 6, 7, 10, 11] [901, 902, 903] (by kernel_rfl), hO, hP, h109⟩
        · rintro a w122 ⟨ρ, χ121, state_110, many_111, hm, hS, hO, hP, h112⟩
          unfold VC58_J2 at hm
          refine region (endP T hS (sp := []) (ks := [0, 1, 2, 3, 6, 7, 10, 11]) (bs := [901, 902, 903]) (sy' := ⟨[(0, I a_), (1, Pt 901 0), (2, Pt 902 0), (3, Pt 903 0), (6, I state_110), (7, I many_111), (10, I cap1.States), (11, I (IntKind.i64.wrap (x_108 + 1)))], [(901, (23, [I cap1.Ops, I cap1.States])), (902, (41, [V (.slice a1 cap2.length c1)])), (903, (4, [B cap3]))]⟩) (by kernel_rfl) ?_)
          intro a hS
          exact ⟨⟨state_110, many_111, IntKind.i64.wrap (x_108 + 1)⟩, ⟨ρ, _, hm.1, hS.sel [0, 1, 2, 3, 6, 7, 10, 11] [901, 902, 903] (by kernel_rfl), hO, hP, h112⟩, hm.2⟩
      · replace hm := hm.2 hb
        refine wexit (by rfl) ?_
        exact ⟨ρ, _, state_106, many_107, hm, hS.sel [3, 6, 7] [901, 902, 903] (by kernel_rfl), hO, hP, h109⟩
  · rintro a w126 ⟨ρ, χ125, state_101, many_102, hm, hS, hO, hP, h103⟩
    unfold VC58_J1 at hm
    refine regM T hS (sp := [27]) (ks := [6]) (bs := [901, 902, 903]) (sy' := ⟨[(6, I state_101)], [(901, (23, [I cap1.Ops, I cap1.States])), (902, (41, [V (.slice a1 cap2.length c1)])), (903, (4, [B (cap3 && (many_102 == 1))]))]⟩) (by kernel_rfl) ?_
    intro ρ a w104 χ105 hS hE hr
    replace hO := hO.mv hE rfl rfl
    replace h103 := h103.mv hE rfl
    replace hP := hP.mv hr (by kernel_rfl)
    clear hE hr
    refine regP T hS (sp := []) (ks := [5]) (bs := [901, 902, 903]) (sy' := ⟨[(5, I state_101)], [(901, (23, [I cap1.Ops, I cap1.States])), (902, (41, [V (.slice a1 cap2.length c1)])), (903, (4, [B (cap3 && (many_102 == 1))]))]⟩) (by kernel_rfl) ?_
    intro a hS
    refine wret ?_
    exact finR T hS hO (fun c h => f0of_zero (by kernel_rfl) h) (fun c h => f0of_else (l := [(i1, 901), (i2, 902), (i3, 903)]) h) (f1of [(i1, 901), (i2, 902), (i3, 903)]) rfl (r := [.int .i64 state_101]) (by kernel_rfl) (fun χ' hM hC => ⟨(state_101, (cap3 && (many_102 == 1))), hm, rfl, ((hS.cell (id := 901) (t := 23) (cs := [I cap1.Ops, I cap1.States]) (by kernel_rfl)).out (f := (f1of [(i1, 901), (i2, 902), (i3, 903)])) hC (by kernel_rfl) (by kernel_rfl) (hP.at 0 rfl)), ((hS.cell (id := 902) (t := 41) (cs := [V (.slice a1 cap2.length c1)]) (by kernel_rfl)).out (f := (f1of [(i1, 901), (i2, 902), (i3, 903)])) hC (by kernel_rfl) (by kernel_rfl) (hP.at 1 rfl)), ((hS.cell (id := 903) (t := 4) (cs := [B (cap3 && (many_102 == 1))]) (by kernel_rfl)).out (f := (f1of [(i1, 901), (i2, 902), (i3, 903)])) hC (by kernel_rfl) (by kernel_rfl) (hP.at 2 rfl))⟩)
theorem C58 (k59 : S59) (v : ∀ (a_ : Int) (cap1 : Numbering_Size) (cap2 : List Bool) (cap3 : Bool), preRow1 a_ cap1 cap2 cap3 → VC58 a_ cap1 cap2 cap3 (fun r => r = states_Row_1 a_ cap1 cap2 cap3)) : S58 := by
  intro w χ a_ cap1 cap2 cap3 a1 c1  b1 i1 b2 i2 b3 i3 hp h1 hc1 hc2 hc3 hA
  refine (W58 k59 w χ a_ cap1 cap2 cap3 a1 c1  b1 i1 b2 i2 b3 i3 _ (v a_ cap1 cap2 cap3 hp) h1 hc1 hc2 hc3 hA).mono ?_
  rintro _ _ _ _ ⟨r, rfl, h⟩
  exact h
def S57_58 : Prop := ∀ (w : World) (χ : Nat → Nat) (n_ : Int) (cap1 : Numbering_Size) (cap2 : List Bool) (cap3 : Bool) (a1 : Option Addr) (c1 : Nat) (b1 : Nat) (i1 : Nat) (b2 : Nat) (i2 : Nat) (b3 : Nat) (i3 : Nat), preEach n_ cap1 cap2 cap3 → RS tBool w χ a1 cap2 c1 → Cell w χ b1 i1 23 [.int .i64 cap1.Ops, .int .i64 cap1.States] → Cell w χ b2 i2 41 [.slice a1 cap2.length c1] → Cell w χ b3 i3 4 [.bool cap3] → Apart [i1, i2, i3] → Ret Try.prog 57 #[.int .i64 n_, .func (.func 58) #[] #[.pointer (some ⟨b1, 0, none⟩), .pointer (some ⟨b2, 0, none⟩), .pointer (some ⟨b3, 0, none⟩)]] (pR [i1, i2, i3]) w χ (fun w χ' v => ∃ (ra1 : Option Addr) (rc1 : Nat), v = .slice ra1 ((states_each_int_states_Row_1 n_ cap1 cap2 cap3).1).length rc1 ∧ RS tI w χ' ra1 ((states_each_int_states_Row_1 n_ cap1 cap2 cap3).1) rc1 ∧ Cell w χ' b1 i1 23 [.int .i64 cap1.Ops, .int .i64 cap1.States] ∧ Cell w χ' b2 i2 41 [.slice a1 cap2.length c1] ∧ Cell w χ' b3 i3 4 [.bool ((states_each_int_states_Row_1 n_ cap1 cap2 cap3).2)])
theorem hb57 : hasBody Try.prog 57 = true := by kernel_rfl
/-- replevin/states.each[int] -/
theorem W57_58 (k58 : S58) (w0 : World) (χ0 : Nat → Nat) (n_ : Int) (cap1 : Numbering_Size) (cap2 : List Bool) (cap3 : Bool) (a1 : Option Addr) (c1 : Nat) (b1 : Nat) (i1 : Nat) (b2 : Nat) (i2 : Nat) (b3 : Nat) (i3 : Nat) (Q : (List Int) × Bool → Prop) (hm : VC57_58 n_ cap1 cap2 cap3 Q) (h1 : RS tBool w0 χ0 a1 cap2 c1) (hc1 : Cell w0 χ0 b1 i1 23 [.int .i64 cap1.Ops, .int .i64 cap1.States]) (hc2 : Cell w0 χ0 b2 i2 41 [.slice a1 cap2.length c1]) (hc3 : Cell w0 χ0 b3 i3 4 [.bool cap3]) (hA : Apart [i1, i2, i3]) :
    Ret Try.prog 57 #[.int .i64 n_, .func (.func 58) #[] #[.pointer (some ⟨b1, 0, none⟩), .pointer (some ⟨b2, 0, none⟩), .pointer (some ⟨b3, 0, none⟩)]] (pR [i1, i2, i3]) w0 χ0 (fun w χ' v => ∃ r, Q r ∧ ∃ (ra1 : Option Addr) (rc1 : Nat), v = .slice ra1 r.1.length rc1 ∧ RS tI w χ' ra1 r.1 rc1 ∧ Cell w χ' b1 i1 23 [.int .i64 cap1.Ops, .int .i64 cap1.States] ∧ Cell w χ' b2 i2 41 [.slice a1 cap2.length c1] ∧ Cell w χ' b3 i3 4 [.bool r.2]) := by
  unfold VC57_58 at hm
  replace hm := hm (h1.sm (by kernel_rfl))
  refine enterR Try.func57 rfl (f0of [(i1, 901), (i2, 902), (i3, 903)]) (fun id => (bif Nat.beq id 901 then b1 else (bif Nat.beq id 902 then b2 else (bif Nat.beq id 903 then b3 else 0)))) (args := [I n_, .f (.func 58) [] [.p 901 0, .p 902 0, .p 903 0]]) (bxs := [(901, (23, [I cap1.Ops, I cap1.States])), (902, (41, [V (.slice a1 cap2.length c1)])), (903, (4, [B cap3]))]) (by kernel_rfl) rfl (BoxesOK.cons (by kernel_rfl) (hc1.map (f0of_at 0 hA.1 rfl)) (BoxesOK.cons (by kernel_rfl) (hc2.map (f0of_at 1 hA.1 rfl)) (BoxesOK.cons (by kernel_rfl) (hc3.map (f0of_at 2 hA.1 rfl)) BoxesOK.nil))) (f0of_0 (fun q hq => (hA.2 q.1 (List.mem_map.2 ⟨q, hq, rfl⟩)).1)) ?_
  intro a hS hO hM
  have hP : Pin [(901, b1), (902, b2), (903, b3)] (fun id => (bif Nat.beq id 901 then b1 else (bif Nat.beq id 902 then b2 else (bif Nat.beq id 903 then b3 else 0)))) := by intro q hq; simp at hq; rcases hq with rfl | rfl | rfl <;> rfl
  generalize (fun id => (bif Nat.beq id 901 then b1 else (bif Nat.beq id 902 then b2 else (bif Nat.beq id 903 then b3 else 0)))) = ρ at hS hP
  clear hc1 hc2 hc3
  replace h1 := h1.m0 hM
  clear hM
  refine regP T hS (sp := []) (ks := [0, 1]) (bs := [901, 902, 903]) (sy' := ⟨[(0, I n_), (1, .f (.func 58) [] [.p 901 0, .p 902 0, .p 903 0])], [(901, (23, [I cap1.Ops, I cap1.States])), (902, (41, [V (.slice a1 cap2.length c1)])), (903, (4, [B cap3]))]⟩) (by kernel_rfl) ?_
  intro a hS
  refine regO ?_
  refine opsP T hS 1 (sp := []) (ks := [1, 7]) (bs := [901, 902, 903]) (sy' := ⟨[(1, .f (.func 58) [] [.p 901 0, .p 902 0, .p 903 0]), (7, I n_)], [(901, (23, [I cap1.Ops, I cap1.States])), (902, (41, [V (.slice a1 cap2.length c1)])), (903, (4, [B cap3]))]⟩) (by kernel_rfl) ?_
  intro a hS
  obtain ⟨hq, hm⟩ := hm
  refine op1 (make (E := 3) (kl := .i64) (kc := .i64) (col := 1005) (T := tI) T 0 hS (by kernel_rfl) (by kernel_rfl) (by kernel_rfl) (by kernel_rfl) (by kernel_rfl) (by kernel_rfl) hq.1 hq.2.1 (by have := hq.2.2; simp only [tI, tInt, tBool, tStr, tSlice]; omega) (by have := hq.2.2; omega) (fun _ _ => rfl) ?_)
  intro b101 a w102 χ103 hE h104 hN hS
  clear hq hN
  replace hO := hO.mv hE rfl rfl
  replace h1 := h1.mv hE rfl
  clear hE
  replace hS := hS.conv (t := 8) (y := .slice (some ⟨b101, 0, none⟩) (List.replicate n_.toNat (0 : Int)).length n_.toNat) (by kernel_rfl) (by rw [List.length_replicate])
  refine endP T hS (sp := []) (ks := [1, 5]) (bs := [901, 902, 903]) (sy' := ⟨[(1, .f (.func 58) [] [.p 901 0, .p 902 0, .p 903 0]), (5, V (.slice (some ⟨b101, 0, none⟩) (List.replicate n_.toNat (0 : Int)).length n_.toNat))], [(901, (23, [I cap1.Ops, I cap1.States])), (902, (41, [V (.slice a1 cap2.length c1)])), (903, (4, [B cap3]))]⟩) (by kernel_rfl) ?_
  intro a hS
  refine wcut (fun a w => ∃ (ρ : Nat → Nat) (χ : Nat → Nat) (out_105 : List Int) (x_110 : Bool) (a106 : Option Addr) (c107 : Nat), VC57_58_J1 Q out_105 x_110 ∧ St Try.f57.ntmps ⟨[(5, V (.slice a106 out_105.length c107))], [(901, (23, [I cap1.Ops, I cap1.States])), (902, (41, [V (.slice a1 cap2.length c1)])), (903, (4, [B x_110]))]⟩ ρ a w χ ∧ OldR (f0of [(i1, 901), (i2, 902), (i3, 903)]) w0 χ0 w χ ∧ Pin [(901, b1), (902, b2), (903, b3)] ρ ∧ OS tI 3 w χ 1005 a106 out_105 c107 ∧ RS tBool w χ a1 cap2 c1) ?_ ?_
  · refine regP T hS (sp := []) (ks := [1, 5, 10, 11]) (bs := [901, 902, 903]) (sy' := ⟨[(1, .f (.func 58) [] [.p 901 0, .p 902 0, .p 903 0]), (5, V (.slice (some ⟨b101, 0, none⟩) (List.replicate n_.toNat (0 : Int)).length n_.toNat)), (10, I (((List.replicate n_.toNat (0 : Int)).length : Nat) : Int)), (11, I 0)], [(901, (23, [I cap1.Ops, I cap1.States])), (902, (41, [V (.slice a1 cap2.length c1)])), (903, (4, [B cap3]))]⟩) (by kernel_rfl) ?_
    intro a hS
    refine wblock ?_
    obtain ⟨I1, μ1, hm0, hm⟩ := hm
    refine wloop (σ := (List Int) × Int × Bool) (fun s a w => ∃ (ρ : Nat → Nat) (χ : Nat → Nat) (a114 : Option Addr) (c115 : Nat), I1 s.1 s.2.1 s.2.2 ∧ St Try.f57.ntmps ⟨[(1, .f (.func 58) [] [.p 901 0, .p 902 0, .p 903 0]), (5, V (.slice a114 s.1.length c115)), (10, I (((List.replicate n_.toNat (0 : Int)).length : Nat) : Int)), (11, I s.2.1)], [(901, (23, [I cap1.Ops, I cap1.States])), (902, (41, [V (.slice a1 cap2.length c1)])), (903, (4, [B s.2.2]))]⟩ ρ a w χ ∧ OldR (f0of [(i1, 901), (i2, 902), (i3, 903)]) w0 χ0 w χ ∧ Pin [(901, b1), (902, b2), (903, b3)] ρ ∧ OS tI 3 w χ 1005 a114 s.1 c115 ∧ RS tBool w χ a1 cap2 c1) (fun s => μ1 s.1 s.2.1 s.2.2) (⟨List.replicate n_.toNat (0 : Int), 0, cap3⟩) ?_ ?_
    · exact ⟨ρ, _, (some ⟨b101, 0, none⟩), n_.toNat, hm0, hS.sel [1, 5, 10, 11] [901, 902, 903] (by kernel_rfl), hO, hP, h104, h1⟩
    · rintro ⟨out_113, x_117, x_119⟩ a w133 ⟨ρ, χ132, a114, c115, hI, hS, hO, hP, h116, h118⟩
      replace hm := hm out_113 x_117 x_119 hI
      clear hI hm0
      refine regP T hS (sp := []) (ks := [1, 5, 10, 11, 12]) (bs := [901, 902, 903]) (sy' := ⟨[(1, .f (.func 58) [] [.p 901 0, .p 902 0, .p 903 0]), (5, V (.slice a114 out_113.length c115)), (10, I (((List.replicate n_.toNat (0 : Int)).length : Nat) : Int)), (11, I x_117), (12, B (decide (x_117 < (((List.replicate n_.toNat (0 : Int)).length : Nat) : Int))))], [(901, (23, [I cap1.Ops, I cap1.States])), (902, (41, [V (.slice a1 cap2.length c1)])), (903, (4, [B x_119]))]⟩) (by kernel_rfl) ?_
      intro a hS
      refine wseq ?_
      refine wcond hS (b := decide (x_117 < (((List.replicate n_.toNat (0 : Int)).length : Nat) : Int))) (by kernel_rfl) (fun hb => ?_) (fun hb => ?_)
      · replace hm := hm.1 hb
        refine wskip ?_
        refine wseq ?_
        refine wblock ?_
        refine regP T hS (sp := []) (ks := [1, 5, 6, 10, 11]) (bs := [901, 902, 903]) (sy' := ⟨[(1, .f (.func 58) [] [.p 901 0, .p 902 0, .p 903 0]), (5, V (.slice a114 out_113.length c115)), (6, I x_117), (10, I (((List.replicate n_.toNat (0 : Int)).length : Nat) : Int)), (11, I x_117)], [(901, (23, [I cap1.Ops, I cap1.States])), (902, (41, [V (.slice a1 cap2.length c1)])), (903, (4, [B x_119]))]⟩) (by kernel_rfl) ?_
        intro a hS
        refine region ?_
        refine opsP T hS 4 (sp := []) (ks := [1, 5, 10, 11, 14, 15, 16, 17]) (bs := [901, 902, 903]) (sy' := ⟨[(1, .f (.func 58) [] [.p 901 0, .p 902 0, .p 903 0]), (5, V (.slice a114 out_113.length c115)), (10, I (((List.replicate n_.toNat (0 : Int)).length : Nat) : Int)), (11, I x_117), (14, V (.slice a114 out_113.length c115)), (15, I x_117), (16, .f (.func 58) [] [.p 901 0, .p 902 0, .p 903 0]), (17, I x_117)], [(901, (23, [I cap1.Ops, I cap1.States])), (902, (41, [V (.slice a1 cap2.length c1)])), (903, (4, [B x_119]))]⟩) (by kernel_rfl) ?_
        intro a hS
        obtain ⟨hq, hm⟩ := hm
        refine op1 (callCR (fi := []) (cp := [.p 901 0, .p 902 0, .p 903 0]) hS (by kernel_rfl) (by kernel_rfl) hb58 (by kernel_rfl) (by kernel_rfl) (k58 _ _ x_117 cap1 cap2 x_119 a1 c1 (ρ 901) 901 (ρ 902) 902 (ρ 903) 903 hq h118 (hS.cell (id := 901) (t := 23) (cs := [I cap1.Ops, I cap1.States]) (by kernel_rfl)) (hS.cell (id := 902) (t := 41) (cs := [V (.slice a1 cap2.length c1)]) (by kernel_rfl)) (hS.cell (id := 903) (t := 4) (cs := [B x_119]) (by kernel_rfl)) ⟨by decide, by decide⟩) ?_)
        intro v120 a w121 χ122 hE hp hS
        clear hq
        replace hO := hO.mv hE rfl rfl
        replace h116 := h116.mv hE rfl rfl
        replace h118 := h118.mv hE rfl
        clear hE
        obtain ⟨hp, hc124, hc125, hc126⟩ := hp
        obtain ⟨r123, hr⟩ : ∃ r, states_Row_1 x_117 cap1 cap2 x_119 = r := ⟨_, rfl⟩
        replace hm := hm r123 hr
        rw [hr] at hp hc126
        clear hr
        subst hp
        replace hS := hS.addbox (id := 901) (t := 23) (cs := [I cap1.Ops, I cap1.States]) (by kernel_rfl) hc124
        replace hS := hS.addbox (id := 902) (t := 41) (cs := [V (.slice a1 cap2.length c1)]) (by kernel_rfl) hc125
        replace hS := hS.addbox (id := 903) (t := 4) (cs := [B r123.2]) (by kernel_rfl) hc126
        clear hc124 hc125 hc126
        obtain ⟨hq, hm⟩ := hm
        refine op1 (indexO (E := 3) (k := .i64) T hS (by kernel_rfl) (by kernel_rfl) (by kernel_rfl) (by kernel_rfl) h116 (by kernel_rfl) (by kernel_rfl) hq.1 hq.2 ?_)
        intro A127 a h129 h128 hS
        refine op1 (storeO (x := r123.1) (v := I r123.1) (i := x_117.toNat) (E := 3) (xs := out_113) T hS (by kernel_rfl) (by kernel_rfl) (by kernel_rfl) (by kernel_rfl) h116 h129 (by have := hq.1; have := hq.2; omega) (by kernel_rfl) (fun _ _ _ => rfl) ?_)
        intro a w130 hE h131 hS
        clear h116 h129 h128 hq
        replace hO := hO.mv hE rfl rfl
        replace h118 := h118.mv hE rfl
        clear hE
        replace hS := hS.conv (t := 5) (y := .slice a114 (out_113.set x_117.toNat r123.1).length c115) (by kernel_rfl) (by rw [List.length_set])
        replace hS := hS.conv (t := 14) (y := .slice a114 (out_113.set x_117.toNat r123.1).length c115) (by kernel_rfl) (by rw [List.length_set])
        refine doneK ?_
        refine region (endP T hS (sp := []) (ks := [1, 5, 10, 11]) (bs := [901, 902, 903]) (sy' := ⟨[(1, .f (.func 58) [] [.p 901 0, .p 902 0, .p 903 0]), (5, V (.slice a114 (out_113.set x_117.toNat r123.1).length c115)), (10, I (((List.replicate n_.toNat (0 : Int)).length : Nat) : Int)), (11, I (IntKind.i64.wrap (x_117 + 1)))], [(901, (23, [I cap1.Ops, I cap1.States])), (902, (41, [V (.slice a1 cap2.length c1)])), (903, (4, [B r123.2]))]⟩) (by kernel_rfl) ?_)
        intro a hS
        exact ⟨⟨(out_113.set x_117.toNat r123.1), IntKind.i64.wrap (x_117 + 1), r123.2⟩, ⟨ρ, _, a114, c115, hm.1, hS.sel [1, 5, 10, 11] [901, 902, 903] (by kernel_rfl), hO, hP, h131, h118⟩, hm.2⟩
      · replace hm := hm.2 hb
        refine wexit (by rfl) ?_
        exact ⟨ρ, _, out_113, x_119, a114, c115, hm, hS.sel [5] [901, 902, 903] (by kernel_rfl), hO, hP, h116, h118⟩
  · rintro a w135 ⟨ρ, χ134, out_105, x_110, a106, c107, hm, hS, hO, hP, h108, h109⟩
    unfold VC57_58_J1 at hm
    refine regP T hS (sp := []) (ks := [4]) (bs := [901, 902, 903]) (sy' := ⟨[(4, V (.slice a106 out_105.length c107))], [(901, (23, [I cap1.Ops, I cap1.States])), (902, (41, [V (.slice a1 cap2.length c1)])), (903, (4, [B x_110]))]⟩) (by kernel_rfl) ?_
    intro a hS
    refine wret ?_
    obtain ⟨χ111, hE, hF⟩ := h108.freeze (by decide)
    replace hS := hS.ev hE (xone_box (by kernel_rfl))
    replace hO := hO.mv hE rfl rfl
    replace h109 := h109.mv hE rfl
    have h112 := hF; clear hE hF
    exact finR T hS hO (fun c h => f0of_zero (by kernel_rfl) h) (fun c h => f0of_else (l := [(i1, 901), (i2, 902), (i3, 903)]) h) (f1of [(i1, 901), (i2, 902), (i3, 903)]) rfl (r := [.slice a106 out_105.length c107]) (by kernel_rfl) (fun χ' hM hC => ⟨(out_105, x_110), hm, a106, c107, rfl, h112.m0 hM, ((hS.cell (id := 901) (t := 23) (cs := [I cap1.Ops, I cap1.States]) (by kernel_rfl)).out (f := (f1of [(i1, 901), (i2, 902), (i3, 903)])) hC (by kernel_rfl) (by kernel_rfl) (hP.at 0 rfl)), ((hS.cell (id := 902) (t := 41) (cs := [V (.slice a1 cap2.length c1)]) (by kernel_rfl)).out (f := (f1of [(i1, 901), (i2, 902), (i3, 903)])) hC (by kernel_rfl) (by kernel_rfl) (hP.at 1 rfl)), ((hS.cell (id := 903) (t := 4) (cs := [B x_110]) (by kernel_rfl)).out (f := (f1of [(i1, 901), (i2, 902), (i3, 903)])) hC (by kernel_rfl) (by kernel_rfl) (hP.at 2 rfl))⟩)
theorem C57_58 (k58 : S58) (v : ∀ (n_ : Int) (cap1 : Numbering_Size) (cap2 : List Bool) (cap3 : Bool), preEach n_ cap1 cap2 cap3 → VC57_58 n_ cap1 cap2 cap3 (fun r => r = states_each_int_states_Row_1 n_ cap1 cap2 cap3)) : S57_58 := by
  intro w χ n_ cap1 cap2 cap3 a1 c1  b1 i1 b2 i2 b3 i3 hp h1 hc1 hc2 hc3 hA
  refine (W57_58 k58 w χ n_ cap1 cap2 cap3 a1 c1  b1 i1 b2 i2 b3 i3 _ (v n_ cap1 cap2 cap3 hp) h1 hc1 hc2 hc3 hA).mono ?_
  rintro _ _ _ _ ⟨r, rfl, h⟩
  exact h
def S27 : Prop := ∀ (w : World) (χ : Nat → Nat) (s_ : Numbering_Size) (m_ : List Bool) (a1 : Option Addr) (c1 : Nat), RS tBool w χ a1 m_ c1 → Ret Try.prog 27 #[.agg #[.int .i64 s_.Ops, .int .i64 s_.States], .slice a1 m_.length c1] xnone w χ (fun w χ' v => ∃ (ra1 : Option Addr) (rc1 : Nat), v = .tuple #[.slice ra1 ((states_Row s_ m_).1).length rc1, .bool ((states_Row s_ m_).2)] ∧ RS tI w χ' ra1 ((states_Row s_ m_).1) rc1)
theorem hb27 : hasBody Try.prog 27 = true := by kernel_rfl
/-- replevin/states.Row -/
theorem W27 (k21 : S21) (k23 : S23) (k57_58 : S57_58) (w0 : World) (χ0 : Nat → Nat) (s_ : Numbering_Size) (m_ : List Bool) (a1 : Option Addr) (c1 : Nat) (Q : (List Int) × Bool → Prop) (hm : VC27 s_ m_ Q) (h1 : RS tBool w0 χ0 a1 m_ c1) :
    Ret Try.prog 27 #[.agg #[.int .i64 s_.Ops, .int .i64 s_.States], .slice a1 m_.length c1] xnone w0 χ0 (fun w χ' v => ∃ r, Q r ∧ ∃ (ra1 : Option Addr) (rc1 : Nat), v = .tuple #[.slice ra1 r.1.length rc1, .bool r.2] ∧ RS tI w χ' ra1 r.1 rc1) := by
  unfold VC27 at hm
  replace hm := hm (h1.sm (by kernel_rfl))
  refine enter Try.func27 rfl (vals := [.agg #[.int .i64 s_.Ops, .int .i64 s_.States], .slice a1 m_.length c1]) (by kernel_rfl) ?_
  intro ρ a hS hO hM
  replace h1 := h1.m0 hM
  clear hM
  refine regM T hS (sp := []) (ks := [2, 3]) (bs := [3, 4]) (sy' := ⟨[(2, Pt 3 0), (3, Pt 4 0)], [(3, (23, [I s_.Ops, I s_.States])), (4, (41, [V (.slice a1 m_.length c1)]))]⟩) (by kernel_rfl) ?_
  intro ρ a w126 χ127 hS hE hr
  replace hO := hO.mv hE rfl rfl
  replace h1 := h1.mv hE rfl
  clear hE hr
  refine wseq ?_
  refine wcut (fun a w => ∃ (ρ : Nat → Nat) (χ : Nat → Nat) (x_101 : Bool), VC27_J1 s_ m_ Q x_101 ∧ St Try.f27.ntmps ⟨[(2, Pt 3 0), (3, Pt 4 0), (17, B x_101)], [(3, (23, [I s_.Ops, I s_.States])), (4, (41, [V (.slice a1 m_.length c1)]))]⟩ ρ a w χ ∧ Old w0 χ0 w χ ∧ RS tBool w χ a1 m_ c1) ?_ ?_
  · refine drawn [3, 4] mixed hS ?_
    intro w115 hS hE hD hH
    replace hO := hO.mv hE rfl rfl
    replace h1 := h1.mv hE rfl
    clear hE
    refine take T [0] [3, 4] [2, 3, 8] hS (by kernel_rfl) (by kernel_rfl) (by kernel_rfl) hH (listed' := #[true, false, false, false, false, false, false, false, false, false]) (fuel := 9) (sy' := ⟨[(2, Pt 3 0), (3, Pt 4 0), (8, V (.agg #[.int .i64 s_.Ops, .int .i64 s_.States]))], [(3, (23, [I s_.Ops, I s_.States])), (4, (41, [V (.slice a1 m_.length c1)]))]⟩) (by kernel_rfl) (by rfl) ?_
    intro a hS
    refine only 1 (by kernel_rfl) (by rfl) (call hS (by kernel_rfl) (by kernel_rfl) hb21 (by kernel_rfl) (fun _ _ => rfl) (k21 _ _ s_) ?_)
    intro v116 a w117 χ118 hE hp hS
    replace hO := hO.mv hE rfl rfl
    replace hD := hD.ev hE rfl
    replace h1 := h1.mv hE rfl
    clear hE
    obtain ⟨r119, hr⟩ : ∃ r, numbering_Check s_ = r := ⟨_, rfl⟩
    replace hm := hm r119 hr
    rw [hr] at hp
    clear hr
    subst hp
    refine andH (Hold.of hS (bks := [3, 4]) (by kernel_rfl) hD) ?_
    intro hH
    refine take T [2, 3] [3, 4] [2, 3, 11] hS (by kernel_rfl) (by kernel_rfl) (by kernel_rfl) hH (listed' := #[true, true, true, true, false, false, false, false, false, false]) (fuel := 6) (sy' := ⟨[(2, Pt 3 0), (3, Pt 4 0), (11, B (r119 != 0))], [(3, (23, [I s_.Ops, I s_.States])), (4, (41, [V (.slice a1 m_.length c1)]))]⟩) (by kernel_rfl) (by rfl) ?_
    intro a hS
    rcases Bool.eq_false_or_eq_true (r119 != 0) with hb | hb
    · replace hS := hS.lit (t := 11) (by kernel_rfl) hb
      replace hm := hm.1 hb
      refine take T [4, 6, 5, 7, 8, 9] [3, 4] [2, 3, 17] hS (by kernel_rfl) (by kernel_rfl) (by kernel_rfl) hH (listed' := #[true, true, true, true, true, true, true, true, true, true]) (fuel := 0) (sy' := ⟨[(2, Pt 3 0), (3, Pt 4 0), (17, B true)], [(3, (23, [I s_.Ops, I s_.States])), (4, (41, [V (.slice a1 m_.length c1)]))]⟩) (by kernel_rfl) (by rfl) ?_
      intro a hS
      refine drawnDone (by kernel_rfl) ?_
      clear hD hH
      replace hS := hS.sel [2, 3, 17] [3, 4] (sy' := ⟨[(2, Pt 3 0), (3, Pt 4 0), (17, B true)], [(3, (23, [I s_.Ops, I s_.States])), (4, (41, [V (.slice a1 m_.length c1)]))]⟩) (by kernel_rfl)
      exact ⟨ρ, _, true, hm, hS.sel [2, 3, 17] [3, 4] (by kernel_rfl), hO, h1⟩
    · replace hS := hS.lit (t := 11) (by kernel_rfl) hb
      replace hm := hm.2 hb
      refine take T [4, 6, 5] [3, 4] [2, 3, 11, 13, 14] hS (by kernel_rfl) (by kernel_rfl) (by kernel_rfl) hH (listed' := #[true, true, true, true, true, true, true, false, false, false]) (fuel := 3) (sy' := ⟨[(2, Pt 3 0), (3, Pt 4 0), (11, B false), (13, I ((m_.length : Nat) : Int)), (14, V (.agg #[.int .i64 s_.Ops, .int .i64 s_.States]))], [(3, (23, [I s_.Ops, I s_.States])), (4, (41, [V (.slice a1 m_.length c1)]))]⟩) (by kernel_rfl) (by rfl) ?_
      intro a hS
      refine only 7 (by kernel_rfl) (by rfl) (call hS (by kernel_rfl) (by kernel_rfl) hb23 (by kernel_rfl) (fun _ _ => rfl) (k23 _ _ s_) ?_)
      intro v120 a w121 χ122 hE hp hS
      replace hO := hO.mv hE rfl rfl
      replace hD := hD.ev hE rfl
      replace h1 := h1.mv hE rfl
      clear hE
      obtain ⟨r123, hr⟩ : ∃ r, numbering_Vars s_ = r := ⟨_, rfl⟩
      replace hm := hm r123 hr
      rw [hr] at hp
      clear hr
      subst hp
      refine andH (Hold.of hS (bks := [3, 4]) (by kernel_rfl) hD) ?_
      intro hH
      refine take T [8, 9] [3, 4] [2, 3, 17] hS (by kernel_rfl) (by kernel_rfl) (by kernel_rfl) hH (listed' := #[true, true, true, true, true, true, true, true, true, true]) (fuel := 0) (sy' := ⟨[(2, Pt 3 0), (3, Pt 4 0), (17, B (((m_.length : Nat) : Int) != r123))], [(3, (23, [I s_.Ops, I s_.States])), (4, (41, [V (.slice a1 m_.length c1)]))]⟩) (by kernel_rfl) (by rfl) ?_
      intro a hS
      refine drawnDone (by kernel_rfl) ?_
      clear hD hH
      replace hS := hS.sel [2, 3, 17] [3, 4] (sy' := ⟨[(2, Pt 3 0), (3, Pt 4 0), (17, B (((m_.length : Nat) : Int) != r123))], [(3, (23, [I s_.Ops, I s_.States])), (4, (41, [V (.slice a1 m_.length c1)]))]⟩) (by kernel_rfl)
      exact ⟨ρ, _, (((m_.length : Nat) : Int) != r123), hm, hS.sel [2, 3, 17] [3, 4] (by kernel_rfl), hO, h1⟩
  · rintro a w125 ⟨ρ, χ124, x_101, hm, hS, hO, h102⟩
    unfold VC27_J1 at hm
    refine wcond hS (b := x_101) (by kernel_rfl) (fun hb => ?_) (fun hb => ?_)
    · replace hm := hm.1 hb
      refine regP T hS (sp := []) (ks := [4, 5]) (bs := []) (sy' := ⟨[(4, V (.slice none 0 0)), (5, B false)], []⟩) (by kernel_rfl) ?_
      intro a hS
      refine wret ?_
      exact fin T hS hO (fun c => c) rfl (r := [.slice none 0 0, .bool false]) (by kernel_rfl) (fun χ' hM hC => ⟨([], false), hm, none, 0, rfl, RS.empty _ _ _⟩)
    · replace hm := hm.2 hb
      refine wskip ?_
      refine regM T hS (sp := []) (ks := [2, 3, 6]) (bs := [3, 4, 7]) (sy' := ⟨[(2, Pt 3 0), (3, Pt 4 0), (6, Pt 7 0)], [(3, (23, [I s_.Ops, I s_.States])), (4, (41, [V (.slice a1 m_.length c1)])), (7, (4, [B true]))]⟩) (by kernel_rfl) ?_
      intro ρ a w113 χ114 hS hE hr
      replace hO := hO.mv hE rfl rfl
      replace h102 := h102.mv hE rfl
      clear hE hr
      refine regO ?_
      refine opsP T hS 4 (sp := []) (ks := [6, 20, 21]) (bs := [3, 4, 7]) (sy' := ⟨[(6, Pt 7 0), (20, I (IntKind.i64.wrap (s_.Ops + 1))), (21, .f (.func 58) [] [.p 3 0, .p 4 0, .p 7 0])], [(3, (23, [I s_.Ops, I s_.States])), (4, (41, [V (.slice a1 m_.length c1)])), (7, (4, [B true]))]⟩) (by kernel_rfl) ?_
      intro a hS
      obtain ⟨hq, hm⟩ := hm
      refine op1 (callR hS (by kernel_rfl) (by kernel_rfl) hb57 (by kernel_rfl) (k57_58 _ _ (IntKind.i64.wrap (s_.Ops + 1)) s_ m_ true a1 c1 (ρ 3) 3 (ρ 4) 4 (ρ 7) 7 hq h102 (hS.cell (id := 3) (t := 23) (cs := [I s_.Ops, I s_.States]) (by kernel_rfl)) (hS.cell (id := 4) (t := 41) (cs := [V (.slice a1 m_.length c1)]) (by kernel_rfl)) (hS.cell (id := 7) (t := 4) (cs := [B true]) (by kernel_rfl)) ⟨by decide, by decide⟩) ?_)
      intro v103 a w104 χ105 hE hp hS
      clear hq
      replace hO := hO.mv hE rfl rfl
      replace h102 := h102.mv hE rfl
      clear hE
      obtain ⟨a107, c108, hp, h109, hc110, hc111, hc112⟩ := hp
      obtain ⟨r106, hr⟩ : ∃ r, states_each_int_states_Row_1 (IntKind.i64.wrap (s_.Ops + 1)) s_ m_ true = r := ⟨_, rfl⟩
      replace hm := hm r106 hr
      rw [hr] at hp h109 hc112
      clear hr
      subst hp
      replace hm := hm (h109.sm (by kernel_rfl))
      replace hS := hS.addbox (id := 3) (t := 23) (cs := [I s_.Ops, I s_.States]) (by kernel_rfl) hc110
      replace hS := hS.addbox (id := 4) (t := 41) (cs := [V (.slice a1 m_.length c1)]) (by kernel_rfl) hc111
      replace hS := hS.addbox (id := 7) (t := 4) (cs := [B r106.2]) (by kernel_rfl) hc112
      clear hc110 hc111 hc112
      refine endP T hS (sp := []) (ks := [6, 7]) (bs := [7]) (sy' := ⟨[(6, Pt 7 0), (7, V (.slice a107 r106.1.length c108))], [(7, (4, [B r106.2]))]⟩) (by kernel_rfl) ?_
      intro a hS
      refine wseq ?_
      refine regP T hS (sp := []) (ks := [7, 24]) (bs := []) (sy' := ⟨[(7, V (.slice a107 r106.1.length c108)), (24, B (!r106.2))], []⟩) (by kernel_rfl) ?_
      intro a hS
      refine wcond hS (b := (!r106.2)) (by kernel_rfl) (fun hb => ?_) (fun hb => ?_)
      · replace hm := hm.1 hb
        refine regP T hS (sp := []) (ks := [4, 5]) (bs := []) (sy' := ⟨[(4, V (.slice none 0 0)), (5, B false)], []⟩) (by kernel_rfl) ?_
        intro a hS
        refine wret ?_
        exact fin T hS hO (fun c => c) rfl (r := [.slice none 0 0, .bool false]) (by kernel_rfl) (fun χ' hM hC => ⟨([], false), hm, none, 0, rfl, RS.empty _ _ _⟩)
      · replace hm := hm.2 hb
        refine wskip ?_
        refine regP T hS (sp := []) (ks := [4, 5]) (bs := []) (sy' := ⟨[(4, V (.slice a107 r106.1.length c108)), (5, B true)], []⟩) (by kernel_rfl) ?_
        intro a hS
        refine wret ?_
        exact fin T hS hO (fun c => c) rfl (r := [.slice a107 r106.1.length c108, .bool true]) (by kernel_rfl) (fun χ' hM hC => ⟨(r106.1, true), hm, a107, c108, rfl, h109.m0 hM⟩)
theorem C27 (k21 : S21) (k23 : S23) (k57_58 : S57_58) (v : ∀ (s_ : Numbering_Size) (m_ : List Bool), VC27 s_ m_ (fun r => r = states_Row s_ m_)) : S27 := by
  intro w χ s_ m_ a1 c1   h1
  refine (W27 k21 k23 k57_58 w χ s_ m_ a1 c1   _ (v s_ m_) h1).mono ?_
  rintro _ _ _ _ ⟨r, rfl, h⟩
  exact h
def S61 : Prop := ∀ (w : World) (χ : Nat → Nat) (b_ : Int) (cap1 : Numbering_Size) (cap2 : Int) (b1 : Nat) (i1 : Nat) (b2 : Nat) (i2 : Nat), Cell w χ b1 i1 23 [.int .i64 cap1.Ops, .int .i64 cap1.States] → Cell w χ b2 i2 3 [.int .i64 cap2] → Apart [i1, i2] → Ret Try.prog 61 #[.int .i64 b_, .pointer (some ⟨b1, 0, none⟩), .pointer (some ⟨b2, 0, none⟩)] (pR [i1, i2]) w χ (fun w χ' v => v = .int .i64 (states_Clauses_1 b_ cap1 cap2) ∧ Cell w χ' b1 i1 23 [.int .i64 cap1.Ops, .int .i64 cap1.States] ∧ Cell w χ' b2 i2 3 [.int .i64 cap2])
theorem hb61 : hasBody Try.prog 61 = true := by kernel_rfl
/-- replevin/states.Clauses$1 -/
theorem W61 (k59 : S59) (w0 : World) (χ0 : Nat → Nat) (b_ : Int) (cap1 : Numbering_Size) (cap2 : Int) (b1 : Nat) (i1 : Nat) (b2 : Nat) (i2 : Nat) (Q : Int → Prop) (hm : VC61 b_ cap1 cap2 Q) (hc1 : Cell w0 χ0 b1 i1 23 [.int .i64 cap1.Ops, .int .i64 cap1.States]) (hc2 : Cell w0 χ0 b2 i2 3 [.int .i64 cap2]) (hA : Apart [i1, i2]) :
    Ret Try.prog 61 #[.int .i64 b_, .pointer (some ⟨b1, 0, none⟩), .pointer (some ⟨b2, 0, none⟩)] (pR [i1, i2]) w0 χ0 (fun w χ' v => ∃ r, Q r ∧ v = .int .i64 r ∧ Cell w χ' b1 i1 23 [.int .i64 cap1.Ops, .int .i64 cap1.States] ∧ Cell w χ' b2 i2 3 [.int .i64 cap2]) := by
  unfold VC61 at hm
  refine enterR Try.func61 rfl (f0of [(i1, 901), (i2, 902)]) (fun id => (bif Nat.beq id 901 then b1 else (bif Nat.beq id 902 then b2 else 0))) (args := [I b_, Pt 901 0, Pt 902 0]) (bxs := [(901, (23, [I cap1.Ops, I cap1.States])), (902, (3, [I cap2]))]) (by kernel_rfl) rfl (BoxesOK.cons (by kernel_rfl) (hc1.map (f0of_at 0 hA.1 rfl)) (BoxesOK.cons (by kernel_rfl) (hc2.map (f0of_at 1 hA.1 rfl)) BoxesOK.nil)) (f0of_0 (fun q hq => (hA.2 q.1 (List.mem_map.2 ⟨q, hq, rfl⟩)).1)) ?_
  intro a hS hO hM
  have hP : Pin [(901, b1), (902, b2)] (fun id => (bif Nat.beq id 901 then b1 else (bif Nat.beq id 902 then b2 else 0))) := by intro q hq; simp at hq; rcases hq with rfl | rfl <;> rfl
  generalize (fun id => (bif Nat.beq id 901 then b1 else (bif Nat.beq id 902 then b2 else 0))) = ρ at hS hP
  clear hc1 hc2
  clear hM
  refine regP T hS (sp := []) (ks := [0, 1, 2]) (bs := [901, 902]) (sy' := ⟨[(0, I b_), (1, Pt 901 0), (2, Pt 902 0)], [(901, (23, [I cap1.Ops, I cap1.States])), (902, (3, [I cap2]))]⟩) (by kernel_rfl) ?_
  intro a hS
  refine regO ?_
  refine opsP T hS 3 (sp := []) (ks := [5, 6, 7]) (bs := [901, 902]) (sy' := ⟨[(5, V (.agg #[.int .i64 cap1.Ops, .int .i64 cap1.States])), (6, I cap2), (7, I b_)], [(901, (23, [I cap1.Ops, I cap1.States])), (902, (3, [I cap2]))]⟩) (by kernel_rfl) ?_
  intro a hS
  refine op1 (call hS (by kernel_rfl) (by kernel_rfl) hb59 (by kernel_rfl) (fun _ _ => rfl) (k59 _ _ cap1 cap2 b_) ?_)
  intro v101 a w102 χ103 hE hp hS
  replace hO := hO.mv hE rfl rfl
  clear hE
  obtain ⟨r104, hr⟩ : ∃ r, states_at cap1 cap2 b_ = r := ⟨_, rfl⟩
  replace hm := hm r104 hr
  rw [hr] at hp
  clear hr
  subst hp
  refine endP T hS (sp := []) (ks := [4]) (bs := [901, 902]) (sy' := ⟨[(4, I r104)], [(901, (23, [I cap1.Ops, I cap1.States])), (902, (3, [I cap2]))]⟩) (by kernel_rfl) ?_
  intro a hS
  refine wret ?_
  exact finR T hS hO (fun c h => f0of_zero (by kernel_rfl) h) (fun c h => f0of_else (l := [(i1, 901), (i2, 902)]) h) (f1of [(i1, 901), (i2, 902)]) rfl (r := [.int .i64 r104]) (by kernel_rfl) (fun χ' hM hC => ⟨r104, hm, rfl, ((hS.cell (id := 901) (t := 23) (cs := [I cap1.Ops, I cap1.States]) (by kernel_rfl)).out (f := (f1of [(i1, 901), (i2, 902)])) hC (by kernel_rfl) (by kernel_rfl) (hP.at 0 rfl)), ((hS.cell (id := 902) (t := 3) (cs := [I cap2]) (by kernel_rfl)).out (f := (f1of [(i1, 901), (i2, 902)])) hC (by kernel_rfl) (by kernel_rfl) (hP.at 1 rfl))⟩)
theorem C61 (k59 : S59) (v : ∀ (b_ : Int) (cap1 : Numbering_Size) (cap2 : Int), VC61 b_ cap1 cap2 (fun r => r = states_Clauses_1 b_ cap1 cap2)) : S61 := by
  intro w χ b_ cap1 cap2   b1 i1 b2 i2 hc1 hc2 hA
  refine (W61 k59 w χ b_ cap1 cap2   b1 i1 b2 i2 _ (v b_ cap1 cap2) hc1 hc2 hA).mono ?_
  rintro _ _ _ _ ⟨r, rfl, h⟩
  exact h
def S57_61 : Prop := ∀ (w : World) (χ : Nat → Nat) (n_ : Int) (cap1 : Numbering_Size) (cap2 : Int) (b1 : Nat) (i1 : Nat) (b2 : Nat) (i2 : Nat), preEachC n_ cap1 cap2 → Cell w χ b1 i1 23 [.int .i64 cap1.Ops, .int .i64 cap1.States] → Cell w χ b2 i2 3 [.int .i64 cap2] → Apart [i1, i2] → Ret Try.prog 57 #[.int .i64 n_, .func (.func 61) #[] #[.pointer (some ⟨b1, 0, none⟩), .pointer (some ⟨b2, 0, none⟩)]] (pR [i1, i2]) w χ (fun w χ' v => ∃ (ra1 : Option Addr) (rc1 : Nat), v = .slice ra1 (states_each_int_states_Clauses_1 n_ cap1 cap2).length rc1 ∧ RS tI w χ' ra1 (states_each_int_states_Clauses_1 n_ cap1 cap2) rc1 ∧ Cell w χ' b1 i1 23 [.int .i64 cap1.Ops, .int .i64 cap1.States] ∧ Cell w χ' b2 i2 3 [.int .i64 cap2])
/-- replevin/states.each[int] -/
theorem W57_61 (k61 : S61) (w0 : World) (χ0 : Nat → Nat) (n_ : Int) (cap1 : Numbering_Size) (cap2 : Int) (b1 : Nat) (i1 : Nat) (b2 : Nat) (i2 : Nat) (Q : (List Int) → Prop) (hm : VC57_61 n_ cap1 cap2 Q) (hc1 : Cell w0 χ0 b1 i1 23 [.int .i64 cap1.Ops, .int .i64 cap1.States]) (hc2 : Cell w0 χ0 b2 i2 3 [.int .i64 cap2]) (hA : Apart [i1, i2]) :
    Ret Try.prog 57 #[.int .i64 n_, .func (.func 61) #[] #[.pointer (some ⟨b1, 0, none⟩), .pointer (some ⟨b2, 0, none⟩)]] (pR [i1, i2]) w0 χ0 (fun w χ' v => ∃ r, Q r ∧ ∃ (ra1 : Option Addr) (rc1 : Nat), v = .slice ra1 r.length rc1 ∧ RS tI w χ' ra1 r rc1 ∧ Cell w χ' b1 i1 23 [.int .i64 cap1.Ops, .int .i64 cap1.States] ∧ Cell w χ' b2 i2 3 [.int .i64 cap2]) := by
  unfold VC57_61 at hm
  refine enterR Try.func57 rfl (f0of [(i1, 901), (i2, 902)]) (fun id => (bif Nat.beq id 901 then b1 else (bif Nat.beq id 902 then b2 else 0))) (args := [I n_, .f (.func 61) [] [.p 901 0, .p 902 0]]) (bxs := [(901, (23, [I cap1.Ops, I cap1.States])), (902, (3, [I cap2]))]) (by kernel_rfl) rfl (BoxesOK.cons (by kernel_rfl) (hc1.map (f0of_at 0 hA.1 rfl)) (BoxesOK.cons (by kernel_rfl) (hc2.map (f0of_at 1 hA.1 rfl)) BoxesOK.nil)) (f0of_0 (fun q hq => (hA.2 q.1 (List.mem_map.2 ⟨q, hq, rfl⟩)).1)) ?_
  intro a hS hO hM
  have hP : Pin [(901, b1), (902, b2)] (fun id => (bif Nat.beq id 901 then b1 else (bif Nat.beq id 902 then b2 else 0))) := by intro q hq; simp at hq; rcases hq with rfl | rfl <;> rfl
  generalize (fun id => (bif Nat.beq id 901 then b1 else (bif Nat.beq id 902 then b2 else 0))) = ρ at hS hP
  clear hc1 hc2
  clear hM
  refine regP T hS (sp := []) (ks := [0, 1]) (bs := [901, 902]) (sy' := ⟨[(0, I n_), (1, .f (.func 61) [] [.p 901 0, .p 902 0])], [(901, (23, [I cap1.Ops, I cap1.States])), (902, (3, [I cap2]))]⟩) (by kernel_rfl) ?_
  intro a hS
  refine regO ?_
  refine opsP T hS 1 (sp := []) (ks := [1, 7]) (bs := [901, 902]) (sy' := ⟨[(1, .f (.func 61) [] [.p 901 0, .p 902 0]), (7, I n_)], [(901, (23, [I cap1.Ops, I cap1.States])), (902, (3, [I cap2]))]⟩) (by kernel_rfl) ?_
  intro a hS
  obtain ⟨hq, hm⟩ := hm
  refine op1 (make (E := 3) (kl := .i64) (kc := .i64) (col := 1005) (T := tI) T 0 hS (by kernel_rfl) (by kernel_rfl) (by kernel_rfl) (by kernel_rfl) (by kernel_rfl) (by kernel_rfl) hq.1 hq.2.1 (by have := hq.2.2; simp only [tI, tInt, tBool, tStr, tSlice]; omega) (by have := hq.2.2; omega) (fun _ _ => rfl) ?_)
  intro b101 a w102 χ103 hE h104 hN hS
  clear hq hN
  replace hO := hO.mv hE rfl rfl
  clear hE
  replace hS := hS.conv (t := 8) (y := .slice (some ⟨b101, 0, none⟩) (List.replicate n_.toNat (0 : Int)).length n_.toNat) (by kernel_rfl) (by rw [List.length_replicate])
  refine endP T hS (sp := []) (ks := [1, 5]) (bs := [901, 902]) (sy' := ⟨[(1, .f (.func 61) [] [.p 901 0, .p 902 0]), (5, V (.slice (some ⟨b101, 0, none⟩) (List.replicate n_.toNat (0 : Int)).length n_.toNat))], [(901, (23, [I cap1.Ops, I cap1.States])), (902, (3, [I cap2]))]⟩) (by kernel_rfl) ?_
  intro a hS
  refine wcut (fun a w => ∃ (ρ : Nat → Nat) (χ : Nat → Nat) (out_105 : List Int) (a106 : Option Addr) (c107 : Nat), VC57_61_J1 Q out_105 ∧ St Try.f57.ntmps ⟨[(5, V (.slice a106 out_105.length c107))], [(901, (23, [I cap1.Ops, I cap1.States])), (902, (3, [I cap2]))]⟩ ρ a w χ ∧ OldR (f0of [(i1, 901), (i2, 902)]) w0 χ0 w χ ∧ Pin [(901, b1), (902, b2)] ρ ∧ OS tI 3 w χ 1005 a106 out_105 c107) ?_ ?_
  · refine regP T hS (sp := []) (ks := [1, 5, 10, 11]) (bs := [901, 902]) (sy' := ⟨[(1, .f (.func 61) [] [.p 901 0, .p 902 0]), (5, V (.slice (some ⟨b101, 0, none⟩) (List.replicate n_.toNat (0 : Int)).length n_.toNat)), (10, I (((List.replicate n_.toNat (0 : Int)).length : Nat) : Int)), (11, I 0)], [(901, (23, [I cap1.Ops, I cap1.States])), (902, (3, [I cap2]))]⟩) (by kernel_rfl) ?_
    intro a hS
    refine wblock ?_
    obtain ⟨I1, μ1, hm0, hm⟩ := hm
    refine wloop (σ := (List Int) × Int) (fun s a w => ∃ (ρ : Nat → Nat) (χ : Nat → Nat) (a112 : Option Addr) (c113 : Nat), I1 s.1 s.2 ∧ St Try.f57.ntmps ⟨[(1, .f (.func 61) [] [.p 901 0, .p 902 0]), (5, V (.slice a112 s.1.length c113)), (10, I (((List.replicate n_.toNat (0 : Int)).length : Nat) : Int)), (11, I s.2)], [(901, (23, [I cap1.Ops, I cap1.States])), (902, (3, [I cap2]))]⟩ ρ a w χ ∧ OldR (f0of [(i1, 901), (i2, 902)]) w0 χ0 w χ ∧ Pin [(901, b1), (902, b2)] ρ ∧ OS tI 3 w χ 1005 a112 s.1 c113) (fun s => μ1 s.1 s.2) (⟨List.replicate n_.toNat (0 : Int), 0⟩) ?_ ?_
    · exact ⟨ρ, _, (some ⟨b101, 0, none⟩), n_.toNat, hm0, hS.sel [1, 5, 10, 11] [901, 902] (by kernel_rfl), hO, hP, h104⟩
    · rintro ⟨out_111, x_115⟩ a w128 ⟨ρ, χ127, a112, c113, hI, hS, hO, hP, h114⟩
      replace hm := hm out_111 x_115 hI
      clear hI hm0
      refine regP T hS (sp := []) (ks := [1, 5, 10, 11, 12]) (bs := [901, 902]) (sy' := ⟨[(1, .f (.func 61) [] [.p 901 0, .p 902 0]), (5, V (.slice a112 out_111.length c113)), (10, I (((List.replicate n_.toNat (0 : Int)).length : Nat) : Int)), (11, I x_115), (12, B (decide (x_115 < (((List.replicate n_.toNat (0 : Int)).length : Nat) : Int))))], [(901, (23, [I cap1.Ops, I cap1.States])), (902, (3, [I cap2]))]⟩) (by kernel_rfl) ?_
      intro a hS
      refine wseq ?_
      refine wcond hS (b := decide (x_115 < (((List.replicate n_.toNat (0 : Int)).length : Nat) : Int))) (by kernel_rfl) (fun hb => ?_) (fun hb => ?_)
      · replace hm := hm.1 hb
        refine wskip ?_
        refine wseq ?_
        refine wblock ?_
        refine regP T hS (sp := []) (ks := [1, 5, 6, 10, 11]) (bs := [901, 902]) (sy' := ⟨[(1, .f (.func 61) [] [.p 901 0, .p 902 0]), (5, V (.slice a112 out_111.length c113)), (6, I x_115), (10, I (((List.replicate n_.toNat (0 : Int)).length : Nat) : Int)), (11, I x_115)], [(901, (23, [I cap1.Ops, I cap1.States])), (902, (3, [I cap2]))]⟩) (by kernel_rfl) ?_
        intro a hS
        refine region ?_
        refine opsP T hS 4 (sp := []) (ks := [1, 5, 10, 11, 14, 15, 16, 17]) (bs := [901, 902]) (sy' := ⟨[(1, .f (.func 61) [] [.p 901 0, .p 902 0]), (5, V (.slice a112 out_111.length c113)), (10, I (((List.replicate n_.toNat (0 : Int)).length : Nat) : Int)), (11, I x_115), (14, V (.slice a112 out_111.length c113)), (15, I x_115), (16, .f (.func 61) [] [.p 901 0, .p 902 0]), (17, I x_115)], [(901, (23, [I cap1.Ops, I cap1.States])), (902, (3, [I cap2]))]⟩) (by kernel_rfl) ?_
        intro a hS
        refine op1 (callCR (fi := []) (cp := [.p 901 0, .p 902 0]) hS (by kernel_rfl) (by kernel_rfl) hb61 (by kernel_rfl) (by kernel_rfl) (k61 _ _ x_115 cap1 cap2 (ρ 901) 901 (ρ 902) 902 (hS.cell (id := 901) (t := 23) (cs := [I cap1.Ops, I cap1.States]) (by kernel_rfl)) (hS.cell (id := 902) (t := 3) (cs := [I cap2]) (by kernel_rfl)) ⟨by decide, by decide⟩) ?_)
        intro v116 a w117 χ118 hE hp hS
        replace hO := hO.mv hE rfl rfl
        replace h114 := h114.mv hE rfl rfl
        clear hE
        obtain ⟨hp, hc120, hc121⟩ := hp
        obtain ⟨r119, hr⟩ : ∃ r, states_Clauses_1 x_115 cap1 cap2 = r := ⟨_, rfl⟩
        replace hm := hm r119 hr
        rw [hr] at hp
        clear hr
        subst hp
        replace hS := hS.addbox (id := 901) (t := 23) (cs := [I cap1.Ops, I cap1.States]) (by kernel_rfl) hc120
        replace hS := hS.addbox (id := 902) (t := 3) (cs := [I cap2]) (by kernel_rfl) hc121
        clear hc120 hc121
        obtain ⟨hq, hm⟩ := hm
        refine op1 (indexO (E := 3) (k := .i64) T hS (by kernel_rfl) (by kernel_rfl) (by kernel_rfl) (by kernel_rfl) h114 (by kernel_rfl) (by kernel_rfl) hq.1 hq.2 ?_)
        intro A122 a h124 h123 hS
        refine op1 (storeO (x := r119) (v := I r119) (i := x_115.toNat) (E := 3) (xs := out_111) T hS (by kernel_rfl) (by kernel_rfl) (by kernel_rfl) (by kernel_rfl) h114 h124 (by have := hq.1; have := hq.2; omega) (by kernel_rfl) (fun _ _ _ => rfl) ?_)
        intro a w125 hE h126 hS
        clear h114 h124 h123 hq
        replace hO := hO.mv hE rfl rfl
        clear hE
        replace hS := hS.conv (t := 5) (y := .slice a112 (out_111.set x_115.toNat r119).length c113) (by kernel_rfl) (by rw [List.length_set])
        replace hS := hS.conv (t := 14) (y := .slice a112 (out_111.set x_115.toNat r119).length c113) (by kernel_rfl) (by rw [List.length_set])
        refine doneK ?_
        refine region (endP T hS (sp := []) (ks := [1, 5, 10, 11]) (bs := [901, 902]) (sy' := ⟨[(1, .f (.func 61) [] [.p 901 0, .p 902 0]), (5, V (.slice a112 (out_111.set x_115.toNat r119).length c113)), (10, I (((List.replicate n_.toNat (0 : Int)).length : Nat) : Int)), (11, I (IntKind.i64.wrap (x_115 + 1)))], [(901, (23, [I cap1.Ops, I cap1.States])), (902, (3, [I cap2]))]⟩) (by kernel_rfl) ?_)
        intro a hS
        exact ⟨⟨(out_111.set x_115.toNat r119), IntKind.i64.wrap (x_115 + 1)⟩, ⟨ρ, _, a112, c113, hm.1, hS.sel [1, 5, 10, 11] [901, 902] (by kernel_rfl), hO, hP, h126⟩, hm.2⟩
      · replace hm := hm.2 hb
        refine wexit (by rfl) ?_
        exact ⟨ρ, _, out_111, a112, c113, hm, hS.sel [5] [901, 902] (by kernel_rfl), hO, hP, h114⟩
  · rintro a w130 ⟨ρ, χ129, out_105, a106, c107, hm, hS, hO, hP, h108⟩
    unfold VC57_61_J1 at hm
    refine regP T hS (sp := []) (ks := [4]) (bs := [901, 902]) (sy' := ⟨[(4, V (.slice a106 out_105.length c107))], [(901, (23, [I cap1.Ops, I cap1.States])), (902, (3, [I cap2]))]⟩) (by kernel_rfl) ?_
    intro a hS
    refine wret ?_
    obtain ⟨χ109, hE, hF⟩ := h108.freeze (by decide)
    replace hS := hS.ev hE (xone_box (by kernel_rfl))
    replace hO := hO.mv hE rfl rfl
    have h110 := hF; clear hE hF
    exact finR T hS hO (fun c h => f0of_zero (by kernel_rfl) h) (fun c h => f0of_else (l := [(i1, 901), (i2, 902)]) h) (f1of [(i1, 901), (i2, 902)]) rfl (r := [.slice a106 out_105.length c107]) (by kernel_rfl) (fun χ' hM hC => ⟨out_105, hm, a106, c107, rfl, h110.m0 hM, ((hS.cell (id := 901) (t := 23) (cs := [I cap1.Ops, I cap1.States]) (by kernel_rfl)).out (f := (f1of [(i1, 901), (i2, 902)])) hC (by kernel_rfl) (by kernel_rfl) (hP.at 0 rfl)), ((hS.cell (id := 902) (t := 3) (cs := [I cap2]) (by kernel_rfl)).out (f := (f1of [(i1, 901), (i2, 902)])) hC (by kernel_rfl) (by kernel_rfl) (hP.at 1 rfl))⟩)
theorem C57_61 (k61 : S61) (v : ∀ (n_ : Int) (cap1 : Numbering_Size) (cap2 : Int), preEachC n_ cap1 cap2 → VC57_61 n_ cap1 cap2 (fun r => r = states_each_int_states_Clauses_1 n_ cap1 cap2)) : S57_61 := by
  intro w χ n_ cap1 cap2   b1 i1 b2 i2 hp hc1 hc2 hA
  refine (W57_61 k61 w χ n_ cap1 cap2   b1 i1 b2 i2 _ (v n_ cap1 cap2 hp) hc1 hc2 hA).mono ?_
  rintro _ _ _ _ ⟨r, rfl, h⟩
  exact h
def S49 : Prop := ∀ (w : World) (χ : Nat → Nat) (vars : List Int) (a1 : Option Addr) (c1 : Nat), preMost vars → RS tI w χ a1 vars c1 → Ret Try.prog 49 #[.slice a1 vars.length c1] xnone w χ (fun w χ' v => ∃ (ra1 : Option Addr) (rc1 : Nat), v = .slice ra1 (places_Most vars).length rc1 ∧ RS (tSlice tI) w χ' ra1 (places_Most vars) rc1)
theorem hb49 : hasBody Try.prog 49 = true := by kernel_rfl
/-- replevin/places.Most -/
theorem W49 (w0 : World) (χ0 : Nat → Nat) (vars : List Int) (a1 : Option Addr) (c1 : Nat) (Q : (List (List Int)) → Prop) (hm : VC49 vars Q) (h1 : RS tI w0 χ0 a1 vars c1) :
    Ret Try.prog 49 #[.slice a1 vars.length c1] xnone w0 χ0 (fun w χ' v => ∃ r, Q r ∧ ∃ (ra1 : Option Addr) (rc1 : Nat), v = .slice ra1 r.length rc1 ∧ RS (tSlice tI) w χ' ra1 r rc1) := by
  unfold VC49 at hm
  replace hm := hm (h1.sm (by kernel_rfl))
  refine enter Try.func49 rfl (vals := [.slice a1 vars.length c1]) (by kernel_rfl) ?_
  intro ρ a hS hO hM
  replace h1 := h1.m0 hM
  clear hM
  refine regP T hS (sp := []) (ks := [0]) (bs := []) (sy' := ⟨[(0, V (.slice a1 vars.length c1))], []⟩) (by kernel_rfl) ?_
  intro a hS
  refine regP T hS (sp := []) (ks := [0, 3]) (bs := []) (sy' := ⟨[(0, V (.slice a1 vars.length c1)), (3, V (.slice none 0 0))], []⟩) (by kernel_rfl) ?_
  intro a hS
  refine wcut (fun a w => ∃ (ρ : Nat → Nat) (χ : Nat → Nat) (out_101 : List (List Int)) (a102 : Option Addr) (c103 : Nat), VC49_J1 Q out_101 ∧ St Try.f49.ntmps ⟨[(3, V (.slice a102 out_101.length c103))], []⟩ ρ a w χ ∧ Old w0 χ0 w χ ∧ OS (tSlice tI) 42 w χ 1003 a102 out_101 c103) ?_ ?_
  · refine regP T hS (sp := []) (ks := [0, 3, 8, 9, 10]) (bs := []) (sy' := ⟨[(0, V (.slice a1 vars.length c1)), (3, V (.slice none 0 0)), (8, V (.slice a1 vars.length c1)), (9, I ((vars.length : Nat) : Int)), (10, I 0)], []⟩) (by kernel_rfl) ?_
    intro a hS
    refine wblock ?_
    obtain ⟨I1, μ1, hm0, hm⟩ := hm
    refine wloop (σ := (List (List Int)) × Int) (fun s a w => ∃ (ρ : Nat → Nat) (χ : Nat → Nat) (a109 : Option Addr) (c110 : Nat), I1 s.1 s.2 ∧ St Try.f49.ntmps ⟨[(0, V (.slice a1 vars.length c1)), (3, V (.slice a109 s.1.length c110)), (8, V (.slice a1 vars.length c1)), (9, I ((vars.length : Nat) : Int)), (10, I s.2)], []⟩ ρ a w χ ∧ Old w0 χ0 w χ ∧ RS tI w χ a1 vars c1 ∧ OS (tSlice tI) 42 w χ 1003 a109 s.1 c110 ∧ RS tI w χ a1 vars c1) (fun s => μ1 s.1 s.2) (⟨[], 0⟩) ?_ ?_
    · exact ⟨ρ, _, none, 0, hm0, hS.sel [0, 3, 8, 9, 10] [] (by kernel_rfl), hO, h1, (OS.nil _ _ _ _ _), h1⟩
    · rintro ⟨out_108, x_113⟩ a w155 ⟨ρ, χ154, a109, c110, hI, hS, hO, h107, h111, h112⟩
      replace hm := hm out_108 x_113 hI
      clear hI hm0
      refine regP T hS (sp := []) (ks := [0, 3, 8, 9, 10, 11]) (bs := []) (sy' := ⟨[(0, V (.slice a1 vars.length c1)), (3, V (.slice a109 out_108.length c110)), (8, V (.slice a1 vars.length c1)), (9, I ((vars.length : Nat) : Int)), (10, I x_113), (11, B (decide (x_113 < ((vars.length : Nat) : Int))))], []⟩) (by kernel_rfl) ?_
      intro a hS
      refine wseq ?_
      refine wcond hS (b := decide (x_113 < ((vars.length : Nat) : Int))) (by kernel_rfl) (fun hb => ?_) (fun hb => ?_)
      · replace hm := hm.1 hb
        refine wskip ?_
        refine wcut (fun a w => ∃ (ρ : Nat → Nat) (χ : Nat → Nat) (out_115 : List (List Int)) (a116 : Option Addr) (c117 : Nat), VC49_J2 I1 μ1 out_108 x_113 out_115 ∧ St Try.f49.ntmps ⟨[(0, V (.slice a1 vars.length c1)), (3, V (.slice a116 out_115.length c117)), (8, V (.slice a1 vars.length c1)), (9, I ((vars.length : Nat) : Int)), (10, I x_113)], []⟩ ρ a w χ ∧ Old w0 χ0 w χ ∧ RS tI w χ a1 vars c1 ∧ OS (tSlice tI) 42 w χ 1003 a116 out_115 c117 ∧ RS tI w χ a1 vars c1) ?_ ?_
        · refine wblock ?_
          refine regO ?_
          refine opsP T hS 1 (sp := []) (ks := [0, 3, 8, 9, 10, 12]) (bs := []) (sy' := ⟨[(0, V (.slice a1 vars.length c1)), (3, V (.slice a109 out_108.length c110)), (8, V (.slice a1 vars.length c1)), (9, I ((vars.length : Nat) : Int)), (10, I x_113), (12, I x_113)], []⟩) (by kernel_rfl) ?_
          intro a hS
          obtain ⟨hq, hm⟩ := hm
          refine op1 (index (e := 3) (k := .i64) T hS (by kernel_rfl) (by kernel_rfl) (by kernel_rfl) (by kernel_rfl) h112 (by kernel_rfl) (by kernel_rfl) hq.1 hq.2 ?_)
          intro A120 a h121 hS
          clear hq
          refine op1 (load1 T hS (by kernel_rfl) (by kernel_rfl) (by kernel_rfl) h121 rfl (by kernel_rfl) ?_)
          intro v122 a hv hS
          cases hv
          refine endP T hS (sp := []) (ks := [0, 3, 4, 5, 8, 9, 10]) (bs := []) (sy' := ⟨[(0, V (.slice a1 vars.length c1)), (3, V (.slice a109 out_108.length c110)), (4, I x_113), (5, I (gi vars x_113)), (8, V (.slice a1 vars.length c1)), (9, I ((vars.length : Nat) : Int)), (10, I x_113)], []⟩) (by kernel_rfl) ?_
          intro a hS
          refine regO ?_
          refine opsP T hS 3 (sp := []) (ks := [0, 3, 5, 8, 9, 10, 15, 17]) (bs := []) (sy' := ⟨[(0, V (.slice a1 vars.length c1)), (3, V (.slice a109 out_108.length c110)), (5, I (gi vars x_113)), (8, V (.slice a1 vars.length c1)), (9, I ((vars.length : Nat) : Int)), (10, I x_113), (15, V (.slice a1 vars.length c1)), (17, I (IntKind.i64.wrap (x_113 + 1)))], []⟩) (by kernel_rfl) ?_
          intro a hS
          obtain ⟨hq, hm⟩ := hm
          refine op1 (slice1 (E := 3) (kl := .i64) T hS (by kernel_rfl) (by kernel_rfl) (by kernel_rfl) (by kernel_rfl) h107 (by kernel_rfl) (by kernel_rfl) hq.1 hq.2 ?_)
          intro a123 c124 a h125 hS
          clear hq
          refine endP T hS (sp := []) (ks := [0, 3, 5, 8, 9, 10, 18, 19, 20]) (bs := []) (sy' := ⟨[(0, V (.slice a1 vars.length c1)), (3, V (.slice a109 out_108.length c110)), (5, I (gi vars x_113)), (8, V (.slice a1 vars.length c1)), (9, I ((vars.length : Nat) : Int)), (10, I x_113), (18, V (.slice a123 (vars.drop (IntKind.i64.wrap (x_113 + 1)).toNat).length c124)), (19, I (((vars.drop (IntKind.i64.wrap (x_113 + 1)).toNat).length : Nat) : Int)), (20, I 0)], []⟩) (by kernel_rfl) ?_
          intro a hS
          refine wblock ?_
          obtain ⟨I2, μ2, hm0, hm⟩ := hm
          refine wloop (σ := (List (List Int)) × Int) (fun s a w => ∃ (ρ : Nat → Nat) (χ : Nat → Nat) (a128 : Option Addr) (c129 : Nat), I2 s.1 s.2 ∧ St Try.f49.ntmps ⟨[(0, V (.slice a1 vars.length c1)), (3, V (.slice a128 s.1.length c129)), (5, I (gi vars x_113)), (8, V (.slice a1 vars.length c1)), (9, I ((vars.length : Nat) : Int)), (10, I x_113), (18, V (.slice a123 (vars.drop (IntKind.i64.wrap (x_113 + 1)).toNat).length c124)), (19, I (((vars.drop (IntKind.i64.wrap (x_113 + 1)).toNat).length : Nat) : Int)), (20, I s.2)], []⟩ ρ a w χ ∧ Old w0 χ0 w χ ∧ RS tI w χ a1 vars c1 ∧ OS (tSlice tI) 42 w χ 1003 a128 s.1 c129 ∧ RS tI w χ a1 vars c1 ∧ RS tI w χ a123 (vars.drop (IntKind.i64.wrap (x_113 + 1)).toNat) c124) (fun s => μ2 s.1 s.2) (⟨out_108, 0⟩) ?_ ?_
          · exact ⟨ρ, _, a109, c110, hm0, hS.sel [0, 3, 5, 8, 9, 10, 18, 19, 20] [] (by kernel_rfl), hO, h107, h111, h112, h125⟩
          · rintro ⟨out_127, x_133⟩ a w151 ⟨ρ, χ150, a128, c129, hI, hS, hO, h126, h130, h131, h132⟩
            replace hm := hm out_127 x_133 hI
            clear hI hm0
            refine regP T hS (sp := []) (ks := [0, 3, 5, 8, 9, 10, 18, 19, 20, 21]) (bs := []) (sy' := ⟨[(0, V (.slice a1 vars.length c1)), (3, V (.slice a128 out_127.length c129)), (5, I (gi vars x_113)), (8, V (.slice a1 vars.length c1)), (9, I ((vars.length : Nat) : Int)), (10, I x_113), (18, V (.slice a123 (vars.drop (IntKind.i64.wrap (x_113 + 1)).toNat).length c124)), (19, I (((vars.drop (IntKind.i64.wrap (x_113 + 1)).toNat).length : Nat) : Int)), (20, I x_133), (21, B (decide (x_133 < (((vars.drop (IntKind.i64.wrap (x_113 + 1)).toNat).length : Nat) : Int))))], []⟩) (by kernel_rfl) ?_
            intro a hS
            refine wseq ?_
            refine wcond hS (b := decide (x_133 < (((vars.drop (IntKind.i64.wrap (x_113 + 1)).toNat).length : Nat) : Int))) (by kernel_rfl) (fun hb => ?_) (fun hb => ?_)
            · replace hm := hm.1 hb
              refine wskip ?_
              refine wseq ?_
              refine wblock ?_
              refine regO ?_
              obtain ⟨hq, hm⟩ := hm
              refine op1 (index (e := 3) (k := .i64) T hS (by kernel_rfl) (by kernel_rfl) (by kernel_rfl) (by kernel_rfl) h132 (by kernel_rfl) (by kernel_rfl) hq.1 hq.2 ?_)
              intro A134 a h135 hS
              clear hq
              refine op1 (load1 T hS (by kernel_rfl) (by kernel_rfl) (by kernel_rfl) h135 rfl (by kernel_rfl) ?_)
              intro v136 a hv hS
              cases hv
              refine endP T hS (sp := []) (ks := [0, 3, 5, 7, 8, 9, 10, 18, 19, 20]) (bs := []) (sy' := ⟨[(0, V (.slice a1 vars.length c1)), (3, V (.slice a128 out_127.length c129)), (5, I (gi vars x_113)), (7, I (gi (vars.drop (IntKind.i64.wrap (x_113 + 1)).toNat) x_133)), (8, V (.slice a1 vars.length c1)), (9, I ((vars.length : Nat) : Int)), (10, I x_113), (18, V (.slice a123 (vars.drop (IntKind.i64.wrap (x_113 + 1)).toNat).length c124)), (19, I (((vars.drop (IntKind.i64.wrap (x_113 + 1)).toNat).length : Nat) : Int)), (20, I x_133)], []⟩) (by kernel_rfl) ?_
              intro a hS
              refine region ?_
              refine opsP T hS 5 (sp := []) (ks := [0, 3, 5, 8, 9, 10, 18, 19, 20, 24, 26, 28]) (bs := []) (sy' := ⟨[(0, V (.slice a1 vars.length c1)), (3, V (.slice a128 out_127.length c129)), (5, I (gi vars x_113)), (8, V (.slice a1 vars.length c1)), (9, I ((vars.length : Nat) : Int)), (10, I x_113), (18, V (.slice a123 (vars.drop (IntKind.i64.wrap (x_113 + 1)).toNat).length c124)), (19, I (((vars.drop (IntKind.i64.wrap (x_113 + 1)).toNat).length : Nat) : Int)), (20, I x_133), (24, V (.slice a128 out_127.length c129)), (26, I (IntKind.i64.wrap (0 - (gi vars x_113)))), (28, I (IntKind.i64.wrap (0 - (gi (vars.drop (IntKind.i64.wrap (x_113 + 1)).toNat) x_133))))], []⟩) (by kernel_rfl) ?_
              intro a hS
              refine op1 (lit (E := 3) (col := 0) (T := tI) (vals := [.int .i64 (IntKind.i64.wrap (0 - (gi vars x_113))), .int .i64 (IntKind.i64.wrap (0 - (gi (vars.drop (IntKind.i64.wrap (x_113 + 1)).toNat) x_133)))]) (ys := [IntKind.i64.wrap (0 - (gi vars x_113)), IntKind.i64.wrap (0 - (gi (vars.drop (IntKind.i64.wrap (x_113 + 1)).toNat) x_133))]) T hS (by kernel_rfl) (by kernel_rfl) (by kernel_rfl) (by kernel_rfl) (by exact ⟨rfl, rfl, trivial⟩) rfl (by kernel_rfl) (by kernel_rfl) (by kernel_rfl) (by kernel_rfl) ?_)
              intro b137 a w138 χ139 hE h140 hN hS
              clear hN
              replace hO := hO.mv hE rfl rfl
              replace h126 := h126.mv hE rfl
              replace h130 := h130.mv hE rfl rfl
              replace h131 := h131.mv hE rfl
              replace h132 := h132.mv hE rfl
              clear hE
              replace h140 := h140.rs0
              refine op1 (lit (E := 42) (col := 0) (T := (tSlice tI)) (vals := [.slice (some ⟨b137, 0, none⟩) [IntKind.i64.wrap (0 - (gi vars x_113)), IntKind.i64.wrap (0 - (gi (vars.drop (IntKind.i64.wrap (x_113 + 1)).toNat) x_133))].length 2]) (ys := [[IntKind.i64.wrap (0 - (gi vars x_113)), IntKind.i64.wrap (0 - (gi (vars.drop (IntKind.i64.wrap (x_113 + 1)).toNat) x_133))]]) T hS (by kernel_rfl) (by kernel_rfl) (by kernel_rfl) (by kernel_rfl) (by exact ⟨⟨(some ⟨b137, 0, none⟩), 2, rfl, h140⟩, trivial⟩) rfl (by kernel_rfl) (by kernel_rfl) (by kernel_rfl) (by kernel_rfl) ?_)
              intro b141 a w142 χ143 hE h144 hN hS
              clear hN
              replace hO := hO.mv hE rfl rfl
              replace h126 := h126.mv hE rfl
              replace h130 := h130.mv hE rfl rfl
              replace h131 := h131.mv hE rfl
              replace h132 := h132.mv hE rfl
              replace h140 := h140.mv hE rfl
              clear hE
              replace h144 := h144.rs0
              obtain ⟨hq, hm⟩ := hm
              obtain ⟨news, hN⟩ := h144.src
              refine op1 (append (E := 42) (T := (tSlice tI)) (col := 1003) (xs := out_127) T hS (by kernel_rfl) (by kernel_rfl) (by kernel_rfl) (by kernel_rfl) h130 hN (by kernel_rfl) (by kernel_rfl) (by kernel_rfl) (by kernel_rfl) hq ?_)
              intro a148 c149 a w145 χ146 hE h147 hS
              clear hq hN
              clear h130
              replace hO := hO.mv hE rfl rfl
              replace h126 := h126.mv hE rfl
              replace h131 := h131.mv hE rfl
              replace h132 := h132.mv hE rfl
              replace h140 := h140.mv hE rfl
              replace h144 := h144.mv hE rfl
              clear hE
              refine endP T hS (sp := []) (ks := [0, 3, 5, 8, 9, 10, 18, 19, 20]) (bs := []) (sy' := ⟨[(0, V (.slice a1 vars.length c1)), (3, V (.slice a148 (out_127 ++ [[IntKind.i64.wrap (0 - (gi vars x_113)), IntKind.i64.wrap (0 - (gi (vars.drop (IntKind.i64.wrap (x_113 + 1)).toNat) x_133))]]).length c149)), (5, I (gi vars x_113)), (8, V (.slice a1 vars.length c1)), (9, I ((vars.length : Nat) : Int)), (10, I x_113), (18, V (.slice a123 (vars.drop (IntKind.i64.wrap (x_113 + 1)).toNat).length c124)), (19, I (((vars.drop (IntKind.i64.wrap (x_113 + 1)).toNat).length : Nat) : Int)), (20, I x_133)], []⟩) (by kernel_rfl) ?_
              intro a hS
              refine region (endP T hS (sp := []) (ks := [0, 3, 5, 8, 9, 10, 18, 19, 20]) (bs := []) (sy' := ⟨[(0, V (.slice a1 vars.length c1)), (3, V (.slice a148 (out_127 ++ [[IntKind.i64.wrap (0 - (gi vars x_113)), IntKind.i64.wrap (0 - (gi (vars.drop (IntKind.i64.wrap (x_113 + 1)).toNat) x_133))]]).length c149)), (5, I (gi vars x_113)), (8, V (.slice a1 vars.length c1)), (9, I ((vars.length : Nat) : Int)), (10, I x_113), (18, V (.slice a123 (vars.drop (IntKind.i64.wrap (x_113 + 1)).toNat).length c124)), (19, I (((vars.drop (IntKind.i64.wrap (x_113 + 1)).toNat).length : Nat) : Int)), (20, I (IntKind.i64.wrap (x_133 + 1)))], []⟩) (by kernel_rfl) ?_)
              intro a hS
              exact ⟨⟨out_127 ++ [[IntKind.i64.wrap (0 - (gi vars x_113)), IntKind.i64.wrap (0 - (gi (vars.drop (IntKind.i64.wrap (x_113 + 1)).toNat) x_133))]], IntKind.i64.wrap (x_133 + 1)⟩, ⟨ρ, _, a148, c149, hm.1, hS.sel [0, 3, 5, 8, 9, 10, 18, 19, 20] [] (by kernel_rfl), hO, h126, h147, h131, h132⟩, hm.2⟩
            · replace hm := hm.2 hb
              refine wexit (by rfl) ?_
              exact ⟨ρ, _, out_127, a128, c129, hm, hS.sel [0, 3, 8, 9, 10] [] (by kernel_rfl), hO, h126, h130, h131⟩
        · rintro a w153 ⟨ρ, χ152, out_115, a116, c117, hm, hS, hO, h114, h118, h119⟩
          unfold VC49_J2 at hm
          refine region (endP T hS (sp := []) (ks := [0, 3, 8, 9, 10]) (bs := []) (sy' := ⟨[(0, V (.slice a1 vars.length c1)), (3, V (.slice a116 out_115.length c117)), (8, V (.slice a1 vars.length c1)), (9, I ((vars.length : Nat) : Int)), (10, I (IntKind.i64.wrap (x_113 + 1)))], []⟩) (by kernel_rfl) ?_)
          intro a hS
          exact ⟨⟨out_115, IntKind.i64.wrap (x_113 + 1)⟩, ⟨ρ, _, a116, c117, hm.1, hS.sel [0, 3, 8, 9, 10] [] (by kernel_rfl), hO, h114, h118, h119⟩, hm.2⟩
      · replace hm := hm.2 hb
        refine wexit (by rfl) ?_
        exact ⟨ρ, _, out_108, a109, c110, hm, hS.sel [3] [] (by kernel_rfl), hO, h111⟩
  · rintro a w157 ⟨ρ, χ156, out_101, a102, c103, hm, hS, hO, h104⟩
    unfold VC49_J1 at hm
    refine regP T hS (sp := []) (ks := [2]) (bs := []) (sy' := ⟨[(2, V (.slice a102 out_101.length c103))], []⟩) (by kernel_rfl) ?_
    intro a hS
    refine wret ?_
    obtain ⟨χ105, hE, hF⟩ := h104.freeze (by decide)
    replace hS := hS.ev hE (xone_box (by kernel_rfl))
    replace hO := hO.mv hE rfl rfl
    have h106 := hF; clear hE hF
    exact fin T hS hO (fun c => c) rfl (r := [.slice a102 out_101.length c103]) (by kernel_rfl) (fun χ' hM hC => ⟨out_101, hm, a102, c103, rfl, h106.m0 hM⟩)
theorem C49 (v : ∀ (vars : List Int), preMost vars → VC49 vars (fun r => r = places_Most vars)) : S49 := by
  intro w χ vars a1 c1   hp h1
  refine (W49 w χ vars a1 c1   _ (v vars hp) h1).mono ?_
  rintro _ _ _ _ ⟨r, rfl, h⟩
  exact h
def S32 : Prop := ∀ (w : World) (χ : Nat → Nat) (s_ : Numbering_Size) (init : Int), Ret Try.prog 32 #[.agg #[.int .i64 s_.Ops, .int .i64 s_.States], .int .i64 init] xnone w χ (fun w χ' v => ∃ (ra1 : Option Addr) (rc1 : Nat), v = .slice ra1 (states_Clauses s_ init).length rc1 ∧ RS (tSlice tI) w χ' ra1 (states_Clauses s_ init) rc1)
theorem hb32 : hasBody Try.prog 32 = true := by kernel_rfl
/-- replevin/states.Clauses -/
theorem W32 (k21 : S21) (k49 : S49) (k57_61 : S57_61) (k59 : S59) (w0 : World) (χ0 : Nat → Nat) (s_ : Numbering_Size) (init : Int) (Q : (List (List Int)) → Prop) (hm : VC32 s_ init Q) :
    Ret Try.prog 32 #[.agg #[.int .i64 s_.Ops, .int .i64 s_.States], .int .i64 init] xnone w0 χ0 (fun w χ' v => ∃ r, Q r ∧ ∃ (ra1 : Option Addr) (rc1 : Nat), v = .slice ra1 r.length rc1 ∧ RS (tSlice tI) w χ' ra1 r rc1) := by
  unfold VC32 at hm
  refine enter Try.func32 rfl (vals := [.agg #[.int .i64 s_.Ops, .int .i64 s_.States], .int .i64 init]) (by kernel_rfl) ?_
  intro ρ a hS hO hM
  clear hM
  refine regM T hS (sp := []) (ks := [1, 2]) (bs := [3]) (sy' := ⟨[(1, I init), (2, Pt 3 0)], [(3, (23, [I s_.Ops, I s_.States]))]⟩) (by kernel_rfl) ?_
  intro ρ a w164 χ165 hS hE hr
  replace hO := hO.mv hE rfl rfl
  clear hE hr
  refine wseq ?_
  refine regO ?_
  refine opsP T hS 1 (sp := []) (ks := [1, 2, 8]) (bs := [3]) (sy' := ⟨[(1, I init), (2, Pt 3 0), (8, V (.agg #[.int .i64 s_.Ops, .int .i64 s_.States]))], [(3, (23, [I s_.Ops, I s_.States]))]⟩) (by kernel_rfl) ?_
  intro a hS
  refine op1 (call hS (by kernel_rfl) (by kernel_rfl) hb21 (by kernel_rfl) (fun _ _ => rfl) (k21 _ _ s_) ?_)
  intro v101 a w102 χ103 hE hp hS
  replace hO := hO.mv hE rfl rfl
  clear hE
  obtain ⟨r104, hr⟩ : ∃ r, numbering_Check s_ = r := ⟨_, rfl⟩
  replace hm := hm r104 hr
  rw [hr] at hp
  clear hr
  subst hp
  refine endP T hS (sp := [11, 15]) (ks := [1, 2, 20]) (bs := [3]) (sy' := ⟨[(1, I init), (2, Pt 3 0), (20, B (((r104 != 0) || (decide (init < 0))) || (decide (init ≥ s_.States))))], [(3, (23, [I s_.Ops, I s_.States]))]⟩) (by kernel_rfl) ?_
  intro a hS
  refine wcond hS (b := (((r104 != 0) || (decide (init < 0))) || (decide (init ≥ s_.States)))) (by kernel_rfl) (fun hb => ?_) (fun hb => ?_)
  · replace hm := hm.1 hb
    refine regP T hS (sp := []) (ks := [4]) (bs := []) (sy' := ⟨[(4, V (.slice none 0 0))], []⟩) (by kernel_rfl) ?_
    intro a hS
    refine wret ?_
    exact fin T hS hO (fun c => c) rfl (r := [.slice none 0 0]) (by kernel_rfl) (fun χ' hM hC => ⟨[], hm, none, 0, rfl, RS.empty _ _ _⟩)
  · replace hm := hm.2 hb
    refine wskip ?_
    refine regO ?_
    refine opsP T hS 2 (sp := []) (ks := [2, 21, 22]) (bs := [3]) (sy' := ⟨[(2, Pt 3 0), (21, V (.agg #[.int .i64 s_.Ops, .int .i64 s_.States])), (22, I init)], [(3, (23, [I s_.Ops, I s_.States]))]⟩) (by kernel_rfl) ?_
    intro a hS
    refine op1 (call hS (by kernel_rfl) (by kernel_rfl) hb59 (by kernel_rfl) (fun _ _ => rfl) (k59 _ _ s_ 0 init) ?_)
    intro v105 a w106 χ107 hE hp hS
    replace hO := hO.mv hE rfl rfl
    clear hE
    obtain ⟨r108, hr⟩ : ∃ r, states_at s_ 0 init = r := ⟨_, rfl⟩
    replace hm := hm r108 hr
    rw [hr] at hp
    clear hr
    subst hp
    refine op1 (lit (E := 3) (col := 0) (T := tI) (vals := [.int .i64 r108]) (ys := [r108]) T hS (by kernel_rfl) (by kernel_rfl) (by kernel_rfl) (by kernel_rfl) (by exact ⟨rfl, trivial⟩) rfl (by kernel_rfl) (by kernel_rfl) (by kernel_rfl) (by kernel_rfl) ?_)
    intro b109 a w110 χ111 hE h112 hN hS
    clear hN
    replace hO := hO.mv hE rfl rfl
    clear hE
    replace h112 := h112.rs0
    refine op1 (lit (E := 42) (col := 1005) (T := (tSlice tI)) (vals := [.slice (some ⟨b109, 0, none⟩) [r108].length 1]) (ys := [[r108]]) T hS (by kernel_rfl) (by kernel_rfl) (by kernel_rfl) (by kernel_rfl) (by exact ⟨⟨(some ⟨b109, 0, none⟩), 1, rfl, h112⟩, trivial⟩) rfl (by kernel_rfl) (by kernel_rfl) (by kernel_rfl) (by kernel_rfl) ?_)
    intro b113 a w114 χ115 hE h116 hN hS
    clear hN
    replace hO := hO.mv hE rfl rfl
    replace h112 := h112.mv hE rfl
    clear hE
    refine endP T hS (sp := []) (ks := [2, 5]) (bs := [3]) (sy' := ⟨[(2, Pt 3 0), (5, V (.slice (some ⟨b113, 0, none⟩) [[r108]].length 1))], [(3, (23, [I s_.Ops, I s_.States]))]⟩) (by kernel_rfl) ?_
    intro a hS
    refine wcut (fun a w => ∃ (ρ : Nat → Nat) (χ : Nat → Nat) (out_117 : List (List Int)) (a118 : Option Addr) (c119 : Nat), VC32_J1 Q out_117 ∧ St Try.f32.ntmps ⟨[(5, V (.slice a118 out_117.length c119))], []⟩ ρ a w χ ∧ Old w0 χ0 w χ ∧ OS (tSlice tI) 42 w χ 1005 a118 out_117 c119) ?_ ?_
    · refine regP T hS (sp := []) (ks := [2, 5, 28, 29]) (bs := [3]) (sy' := ⟨[(2, Pt 3 0), (5, V (.slice (some ⟨b113, 0, none⟩) [[r108]].length 1)), (28, I (IntKind.i64.wrap (s_.Ops + 1))), (29, I 0)], [(3, (23, [I s_.Ops, I s_.States]))]⟩) (by kernel_rfl) ?_
      intro a hS
      refine wblock ?_
      obtain ⟨I1, μ1, hm0, hm⟩ := hm
      refine wloop (σ := (List (List Int)) × Int) (fun s a w => ∃ (ρ : Nat → Nat) (χ : Nat → Nat) (a124 : Option Addr) (c125 : Nat), I1 s.1 s.2 ∧ St Try.f32.ntmps ⟨[(2, Pt 3 0), (5, V (.slice a124 s.1.length c125)), (28, I (IntKind.i64.wrap (s_.Ops + 1))), (29, I s.2)], [(3, (23, [I s_.Ops, I s_.States]))]⟩ ρ a w χ ∧ Old w0 χ0 w χ ∧ OS (tSlice tI) 42 w χ 1005 a124 s.1 c125) (fun s => μ1 s.1 s.2) (⟨[[r108]], 0⟩) ?_ ?_
      · exact ⟨ρ, _, (some ⟨b113, 0, none⟩), 1, hm0, hS.sel [2, 5, 28, 29] [3] (by kernel_rfl), hO, h116⟩
      · rintro ⟨out_123, x_127⟩ a w161 ⟨ρ, χ160, a124, c125, hI, hS, hO, h126⟩
        replace hm := hm out_123 x_127 hI
        clear hI hm0
        refine regP T hS (sp := []) (ks := [2, 5, 28, 29, 30]) (bs := [3]) (sy' := ⟨[(2, Pt 3 0), (5, V (.slice a124 out_123.length c125)), (28, I (IntKind.i64.wrap (s_.Ops + 1))), (29, I x_127), (30, B (decide (x_127 < (IntKind.i64.wrap (s_.Ops + 1)))))], [(3, (23, [I s_.Ops, I s_.States]))]⟩) (by kernel_rfl) ?_
        intro a hS
        refine wseq ?_
        refine wcond hS (b := decide (x_127 < (IntKind.i64.wrap (s_.Ops + 1)))) (by kernel_rfl) (fun hb => ?_) (fun hb => ?_)
        · replace hm := hm.1 hb
          refine wskip ?_
          refine wseq ?_
          refine wblock ?_
          refine regM T hS (sp := []) (ks := [2, 5, 6, 28, 29]) (bs := [3, 7]) (sy' := ⟨[(2, Pt 3 0), (5, V (.slice a124 out_123.length c125)), (6, Pt 7 0), (28, I (IntKind.i64.wrap (s_.Ops + 1))), (29, I x_127)], [(3, (23, [I s_.Ops, I s_.States])), (7, (3, [I x_127]))]⟩) (by kernel_rfl) ?_
          intro ρ a w158 χ159 hS hE hr
          replace hO := hO.mv hE rfl rfl
          replace h126 := h126.mv hE rfl rfl
          clear hE hr
          refine regO ?_
          refine opsP T hS 3 (sp := []) (ks := [2, 5, 28, 29, 33, 34]) (bs := [3, 7]) (sy' := ⟨[(2, Pt 3 0), (5, V (.slice a124 out_123.length c125)), (28, I (IntKind.i64.wrap (s_.Ops + 1))), (29, I x_127), (33, I s_.States), (34, .f (.func 61) [] [.p 3 0, .p 7 0])], [(3, (23, [I s_.Ops, I s_.States])), (7, (3, [I x_127]))]⟩) (by kernel_rfl) ?_
          intro a hS
          obtain ⟨hq, hm⟩ := hm
          refine op1 (callR hS (by kernel_rfl) (by kernel_rfl) hb57 (by kernel_rfl) (k57_61 _ _ s_.States s_ x_127 (ρ 3) 3 (ρ 7) 7 hq (hS.cell (id := 3) (t := 23) (cs := [I s_.Ops, I s_.States]) (by kernel_rfl)) (hS.cell (id := 7) (t := 3) (cs := [I x_127]) (by kernel_rfl)) ⟨by decide, by decide⟩) ?_)
          intro v128 a w129 χ130 hE hp hS
          clear hq
          replace hO := hO.mv hE rfl rfl
          replace h126 := h126.mv hE rfl rfl
          clear hE
          obtain ⟨a132, c133, hp, h134, hc135, hc136⟩ := hp
          obtain ⟨r131, hr⟩ : ∃ r, states_each_int_states_Clauses_1 s_.States s_ x_127 = r := ⟨_, rfl⟩
          replace hm := hm r131 hr
          rw [hr] at hp h134
          clear hr
          subst hp
          replace hm := hm (h134.sm (by kernel_rfl))
          replace hS := hS.addbox (id := 3) (t := 23) (cs := [I s_.Ops, I s_.States]) (by kernel_rfl) hc135
          replace hS := hS.addbox (id := 7) (t := 3) (cs := [I x_127]) (by kernel_rfl) hc136
          clear hc135 hc136
          refine endP T hS (sp := []) (ks := [2, 5, 7, 28, 29]) (bs := [3]) (sy' := ⟨[(2, Pt 3 0), (5, V (.slice a124 out_123.length c125)), (7, V (.slice a132 r131.length c133)), (28, I (IntKind.i64.wrap (s_.Ops + 1))), (29, I x_127)], [(3, (23, [I s_.Ops, I s_.States]))]⟩) (by kernel_rfl) ?_
          intro a hS
          refine region ?_
          refine opsP T hS 2 (sp := []) (ks := [2, 5, 7, 28, 29, 36, 37]) (bs := [3]) (sy' := ⟨[(2, Pt 3 0), (5, V (.slice a124 out_123.length c125)), (7, V (.slice a132 r131.length c133)), (28, I (IntKind.i64.wrap (s_.Ops + 1))), (29, I x_127), (36, V (.slice a124 out_123.length c125)), (37, V (.slice a132 r131.length c133))], [(3, (23, [I s_.Ops, I s_.States]))]⟩) (by kernel_rfl) ?_
          intro a hS
          refine op1 (lit (E := 42) (col := 0) (T := (tSlice tI)) (vals := [.slice a132 r131.length c133]) (ys := [r131]) T hS (by kernel_rfl) (by kernel_rfl) (by kernel_rfl) (by kernel_rfl) (by exact ⟨⟨a132, c133, rfl, h134⟩, trivial⟩) rfl (by kernel_rfl) (by kernel_rfl) (by kernel_rfl) (by kernel_rfl) ?_)
          intro b137 a w138 χ139 hE h140 hN hS
          clear hN
          replace hO := hO.mv hE rfl rfl
          replace h126 := h126.mv hE rfl rfl
          replace h134 := h134.mv hE rfl
          clear hE
          replace h140 := h140.rs0
          obtain ⟨hq, hm⟩ := hm
          obtain ⟨news, hN⟩ := h140.src
          refine op1 (append (E := 42) (T := (tSlice tI)) (col := 1005) (xs := out_123) T hS (by kernel_rfl) (by kernel_rfl) (by kernel_rfl) (by kernel_rfl) h126 hN (by kernel_rfl) (by kernel_rfl) (by kernel_rfl) (by kernel_rfl) hq ?_)
          intro a144 c145 a w141 χ142 hE h143 hS
          clear hq hN
          clear h126
          replace hO := hO.mv hE rfl rfl
          replace h134 := h134.mv hE rfl
          replace h140 := h140.mv hE rfl
          clear hE
          refine opsP T hS 1 (sp := []) (ks := [2, 28, 29, 39, 40]) (bs := [3]) (sy' := ⟨[(2, Pt 3 0), (28, I (IntKind.i64.wrap (s_.Ops + 1))), (29, I x_127), (39, V (.slice a144 (out_123 ++ [r131]).length c145)), (40, V (.slice a132 r131.length c133))], [(3, (23, [I s_.Ops, I s_.States]))]⟩) (by kernel_rfl) ?_
          intro a hS
          obtain ⟨hq, hm⟩ := hm
          refine op1 (call hS (by kernel_rfl) (by kernel_rfl) hb49 (by kernel_rfl) (fun _ _ => rfl) (k49 _ _ r131 a132 c133 hq h134) ?_)
          intro v146 a w147 χ148 hE hp hS
          clear hq
          replace hO := hO.mv hE rfl rfl
          replace h134 := h134.mv hE rfl
          replace h143 := h143.mv hE rfl rfl
          clear hE
          obtain ⟨a150, c151, hp, h152⟩ := hp
          obtain ⟨r149, hr⟩ : ∃ r, places_Most r131 = r := ⟨_, rfl⟩
          replace hm := hm r149 hr
          rw [hr] at hp h152
          clear hr
          subst hp
          replace hm := hm (h152.sm (by kernel_rfl))
          obtain ⟨hq, hm⟩ := hm
          obtain ⟨news, hN⟩ := h152.src
          refine op1 (append (E := 42) (T := (tSlice tI)) (col := 1005) (xs := out_123 ++ [r131]) T hS (by kernel_rfl) (by kernel_rfl) (by kernel_rfl) (by kernel_rfl) h143 hN (by kernel_rfl) (by kernel_rfl) (by kernel_rfl) (by kernel_rfl) hq ?_)
          intro a156 c157 a w153 χ154 hE h155 hS
          clear hq hN
          clear h143
          replace hO := hO.mv hE rfl rfl
          replace h134 := h134.mv hE rfl
          replace h152 := h152.mv hE rfl
          clear hE
          refine endP T hS (sp := []) (ks := [2, 5, 28, 29]) (bs := [3]) (sy' := ⟨[(2, Pt 3 0), (5, V (.slice a156 ((out_123 ++ [r131]) ++ r149).length c157)), (28, I (IntKind.i64.wrap (s_.Ops + 1))), (29, I x_127)], [(3, (23, [I s_.Ops, I s_.States]))]⟩) (by kernel_rfl) ?_
          intro a hS
          refine region (endP T hS (sp := []) (ks := [2, 5, 28, 29]) (bs := [3]) (sy' := ⟨[(2, Pt 3 0), (5, V (.slice a156 ((out_123 ++ [r131]) ++ r149).length c157)), (28, I (IntKind.i64.wrap (s_.Ops + 1))), (29, I (IntKind.i64.wrap (x_127 + 1)))], [(3, (23, [I s_.Ops, I s_.States]))]⟩) (by kernel_rfl) ?_)
          intro a hS
          exact ⟨⟨(out_123 ++ [r131]) ++ r149, IntKind.i64.wrap (x_127 + 1)⟩, ⟨ρ, _, a156, c157, hm.1, hS.sel [2, 5, 28, 29] [3] (by kernel_rfl), hO, h155⟩, hm.2⟩
        · replace hm := hm.2 hb
          refine wexit (by rfl) ?_
          exact ⟨ρ, _, out_123, a124, c125, hm, hS.sel [5] [] (by kernel_rfl), hO, h126⟩
    · rintro a w163 ⟨ρ, χ162, out_117, a118, c119, hm, hS, hO, h120⟩
      unfold VC32_J1 at hm
      refine regP T hS (sp := []) (ks := [4]) (bs := []) (sy' := ⟨[(4, V (.slice a118 out_117.length c119))], []⟩) (by kernel_rfl) ?_
      intro a hS
      refine wret ?_
      obtain ⟨χ121, hE, hF⟩ := h120.freeze (by decide)
      replace hS := hS.ev hE (xone_box (by kernel_rfl))
      replace hO := hO.mv hE rfl rfl
      have h122 := hF; clear hE hF
      exact fin T hS hO (fun c => c) rfl (r := [.slice a118 out_117.length c119]) (by kernel_rfl) (fun χ' hM hC => ⟨out_117, hm, a118, c119, rfl, h122.m0 hM⟩)
theorem C32 (k21 : S21) (k49 : S49) (k57_61 : S57_61) (k59 : S59) (v : ∀ (s_ : Numbering_Size) (init : Int), VC32 s_ init (fun r => r = states_Clauses s_ init)) : S32 := by
  intro w χ s_ init    
  refine (W32 k21 k49 k57_61 k59 w χ s_ init    _ (v s_ init)).mono ?_
  rintro _ _ _ _ ⟨r, rfl, h⟩
  exact h
def S60 : Prop := ∀ (w : World) (χ : Nat → Nat) (ops : Int) (states : Int) (a_ : Int) (b_ : Int), Ret Try.prog 60 #[.int .i64 ops, .int .i64 states, .int .i64 a_, .int .i64 b_] xnone w χ (fun w χ' v => v = .int .i64 (ref31_State ops states a_ b_))
theorem hb60 : hasBody Try.prog 60 = true := by kernel_rfl
/-- replevin/replevinref31.State -/
theorem W60 (w0 : World) (χ0 : Nat → Nat) (ops : Int) (states : Int) (a_ : Int) (b_ : Int) (Q : Int → Prop) (hm : VC60 ops states a_ b_ Q) :
    Ret Try.prog 60 #[.int .i64 ops, .int .i64 states, .int .i64 a_, .int .i64 b_] xnone w0 χ0 (fun w χ' v => ∃ r, Q r ∧ v = .int .i64 r) := by
  unfold VC60 at hm
  refine enter Try.func60 rfl (vals := [.int .i64 ops, .int .i64 states, .int .i64 a_, .int .i64 b_]) (by kernel_rfl) ?_
  intro ρ a hS hO hM
  clear hM
  refine regP T hS (sp := []) (ks := [0, 1, 2, 3]) (bs := []) (sy' := ⟨[(0, I ops), (1, I states), (2, I a_), (3, I b_)], []⟩) (by kernel_rfl) ?_
  intro a hS
  refine regP T hS (sp := []) (ks := [8]) (bs := []) (sy' := ⟨[(8, I (IntKind.i64.wrap ((IntKind.i64.wrap ((IntKind.i64.wrap ((IntKind.i64.wrap ((IntKind.i64.wrap (ops * ops)) + ops)) + (IntKind.i64.wrap (a_ * states)))) + b_)) + 1)))], []⟩) (by kernel_rfl) ?_
  intro a hS
  refine wret ?_
  exact fin T hS hO (fun c => c) rfl (r := [.int .i64 (IntKind.i64.wrap ((IntKind.i64.wrap ((IntKind.i64.wrap ((IntKind.i64.wrap ((IntKind.i64.wrap (ops * ops)) + ops)) + (IntKind.i64.wrap (a_ * states)))) + b_)) + 1))]) (by kernel_rfl) (fun χ' hM hC => ⟨(IntKind.i64.wrap ((IntKind.i64.wrap ((IntKind.i64.wrap ((IntKind.i64.wrap ((IntKind.i64.wrap (ops * ops)) + ops)) + (IntKind.i64.wrap (a_ * states)))) + b_)) + 1)), hm, rfl⟩)
theorem C60 (v : ∀ (ops : Int) (states : Int) (a_ : Int) (b_ : Int), VC60 ops states a_ b_ (fun r => r = ref31_State ops states a_ b_)) : S60 := by
  intro w χ ops states a_ b_    
  refine (W60 w χ ops states a_ b_    _ (v ops states a_ b_)).mono ?_
  rintro _ _ _ _ ⟨r, rfl, h⟩
  exact h
def S28 : Prop := ∀ (w : World) (χ : Nat → Nat) (ops : Int) (states : Int) (m_ : List Bool) (a1 : Option Addr) (c1 : Nat), RS tBool w χ a1 m_ c1 → Ret Try.prog 28 #[.int .i64 ops, .int .i64 states, .slice a1 m_.length c1] xnone w χ (fun w χ' v => ∃ (ra1 : Option Addr) (rc1 : Nat), v = .tuple #[.slice ra1 ((ref34_Row ops states m_).1).length rc1, .bool ((ref34_Row ops states m_).2)] ∧ RS tI w χ' ra1 ((ref34_Row ops states m_).1) rc1)
theorem hb28 : hasBody Try.prog 28 = true := by kernel_rfl
/-- replevin/replevinref34.Row -/
theorem W28 (k22 : S22) (k60 : S60) (w0 : World) (χ0 : Nat → Nat) (ops : Int) (states : Int) (m_ : List Bool) (a1 : Option Addr) (c1 : Nat) (Q : (List Int) × Bool → Prop) (hm : VC28 ops states m_ Q) (h1 : RS tBool w0 χ0 a1 m_ c1) :
    Ret Try.prog 28 #[.int .i64 ops, .int .i64 states, .slice a1 m_.length c1] xnone w0 χ0 (fun w χ' v => ∃ r, Q r ∧ ∃ (ra1 : Option Addr) (rc1 : Nat), v = .tuple #[.slice ra1 r.1.length rc1, .bool r.2] ∧ RS tI w χ' ra1 r.1 rc1) := by
  unfold VC28 at hm
  replace hm := hm (h1.sm (by kernel_rfl))
  refine enter Try.func28 rfl (vals := [.int .i64 ops, .int .i64 states, .slice a1 m_.length c1]) (by kernel_rfl) ?_
  intro ρ a hS hO hM
  replace h1 := h1.m0 hM
  clear hM
  refine regP T hS (sp := []) (ks := [0, 1, 2]) (bs := []) (sy' := ⟨[(0, I ops), (1, I states), (2, V (.slice a1 m_.length c1))], []⟩) (by kernel_rfl) ?_
  intro a hS
  refine wseq ?_
  refine regO ?_
  refine opsP T hS 2 (sp := []) (ks := [0, 1, 2, 12, 13]) (bs := []) (sy' := ⟨[(0, I ops), (1, I states), (2, V (.slice a1 m_.length c1)), (12, I ops), (13, I states)], []⟩) (by kernel_rfl) ?_
  intro a hS
  refine op1 (call hS (by kernel_rfl) (by kernel_rfl) hb22 (by kernel_rfl) (fun _ _ => rfl) (k22 _ _ ops states) ?_)
  intro v101 a w102 χ103 hE hp hS
  replace hO := hO.mv hE rfl rfl
  replace h1 := h1.mv hE rfl
  clear hE
  obtain ⟨r104, hr⟩ : ∃ r, ref31_Check ops states = r := ⟨_, rfl⟩
  replace hm := hm r104 hr
  rw [hr] at hp
  clear hr
  subst hp
  refine endP T hS (sp := [16]) (ks := [0, 1, 2, 30]) (bs := []) (sy' := ⟨[(0, I ops), (1, I states), (2, V (.slice a1 m_.length c1)), (30, B ((r104 != 0) || (((m_.length : Nat) : Int) != (IntKind.i64.wrap ((IntKind.i64.wrap ((IntKind.i64.wrap (ops * ops)) + ops)) + (IntKind.i64.wrap ((IntKind.i64.wrap (ops + 1)) * states)))))))], []⟩) (by kernel_rfl) ?_
  intro a hS
  refine wcond hS (b := ((r104 != 0) || (((m_.length : Nat) : Int) != (IntKind.i64.wrap ((IntKind.i64.wrap ((IntKind.i64.wrap (ops * ops)) + ops)) + (IntKind.i64.wrap ((IntKind.i64.wrap (ops + 1)) * states))))))) (by kernel_rfl) (fun hb => ?_) (fun hb => ?_)
  · replace hm := hm.1 hb
    refine regP T hS (sp := []) (ks := [6, 7]) (bs := []) (sy' := ⟨[(6, V (.slice none 0 0)), (7, B false)], []⟩) (by kernel_rfl) ?_
    intro a hS
    refine wret ?_
    exact fin T hS hO (fun c => c) rfl (r := [.slice none 0 0, .bool false]) (by kernel_rfl) (fun χ' hM hC => ⟨([], false), hm, none, 0, rfl, RS.empty _ _ _⟩)
  · replace hm := hm.2 hb
    refine wskip ?_
    refine regP T hS (sp := []) (ks := [0, 1, 2, 8]) (bs := []) (sy' := ⟨[(0, I ops), (1, I states), (2, V (.slice a1 m_.length c1)), (8, V (.slice none 0 0))], []⟩) (by kernel_rfl) ?_
    intro a hS
    refine wcut (fun a w => ∃ (ρ : Nat → Nat) (χ : Nat → Nat) (out_105 : List Int) (a106 : Option Addr) (c107 : Nat), VC28_J1 Q out_105 ∧ St Try.f28.ntmps ⟨[(8, V (.slice a106 out_105.length c107))], []⟩ ρ a w χ ∧ Old w0 χ0 w χ ∧ OS tI 3 w χ 1007 a106 out_105 c107) ?_ ?_
    · refine regP T hS (sp := []) (ks := [0, 1, 2, 8, 9]) (bs := []) (sy' := ⟨[(0, I ops), (1, I states), (2, V (.slice a1 m_.length c1)), (8, V (.slice none 0 0)), (9, I 0)], []⟩) (by kernel_rfl) ?_
      intro a hS
      refine wblock ?_
      obtain ⟨I1, μ1, hm0, hm⟩ := hm
      refine wloop (σ := (List Int) × Int) (fun s a w => ∃ (ρ : Nat → Nat) (χ : Nat → Nat) (a113 : Option Addr) (c114 : Nat), I1 s.1 s.2 ∧ St Try.f28.ntmps ⟨[(0, I ops), (1, I states), (2, V (.slice a1 m_.length c1)), (8, V (.slice a113 s.1.length c114)), (9, I s.2)], []⟩ ρ a w χ ∧ Old w0 χ0 w χ ∧ RS tBool w χ a1 m_ c1 ∧ OS tI 3 w χ 1007 a113 s.1 c114) (fun s => μ1 s.1 s.2) (⟨[], 0⟩) ?_ ?_
      · exact ⟨ρ, _, none, 0, hm0, hS.sel [0, 1, 2, 8, 9] [] (by kernel_rfl), hO, h1, (OS.nil _ _ _ _ _)⟩
      · rintro ⟨out_112, a_116⟩ a w156 ⟨ρ, χ155, a113, c114, hI, hS, hO, h111, h115⟩
        replace hm := hm out_112 a_116 hI
        clear hI hm0
        refine wseq ?_
        refine regP T hS (sp := []) (ks := [0, 1, 2, 8, 9, 33]) (bs := []) (sy' := ⟨[(0, I ops), (1, I states), (2, V (.slice a1 m_.length c1)), (8, V (.slice a113 out_112.length c114)), (9, I a_116), (33, B (decide (a_116 ≤ ops)))], []⟩) (by kernel_rfl) ?_
        intro a hS
        refine wcond hS (b := decide (a_116 ≤ ops)) (by kernel_rfl) (fun hb => ?_) (fun hb => ?_)
        · replace hm := hm.1 hb
          refine wskip ?_
          refine wseq ?_
          refine wblock ?_
          refine regP T hS (sp := []) (ks := [0, 1, 2, 8, 9, 10]) (bs := []) (sy' := ⟨[(0, I ops), (1, I states), (2, V (.slice a1 m_.length c1)), (8, V (.slice a113 out_112.length c114)), (9, I a_116), (10, I ((out_112.length : Nat) : Int))], []⟩) (by kernel_rfl) ?_
          intro a hS
          refine wcut (fun a w => ∃ (ρ : Nat → Nat) (χ : Nat → Nat) (out_118 : List Int) (a119 : Option Addr) (c120 : Nat), VC28_J2 Q I1 μ1 out_112 a_116 out_118 ∧ St Try.f28.ntmps ⟨[(0, I ops), (1, I states), (2, V (.slice a1 m_.length c1)), (8, V (.slice a119 out_118.length c120)), (9, I a_116), (10, I ((out_112.length : Nat) : Int))], []⟩ ρ a w χ ∧ Old w0 χ0 w χ ∧ RS tBool w χ a1 m_ c1 ∧ OS tI 3 w χ 1007 a119 out_118 c120) ?_ ?_
          · refine regP T hS (sp := []) (ks := [0, 1, 2, 8, 9, 10, 11]) (bs := []) (sy' := ⟨[(0, I ops), (1, I states), (2, V (.slice a1 m_.length c1)), (8, V (.slice a113 out_112.length c114)), (9, I a_116), (10, I ((out_112.length : Nat) : Int)), (11, I 0)], []⟩) (by kernel_rfl) ?_
            intro a hS
            refine wblock ?_
            obtain ⟨I2, μ2, hm0, hm⟩ := hm
            refine wloop (σ := (List Int) × Int) (fun s a w => ∃ (ρ : Nat → Nat) (χ : Nat → Nat) (a124 : Option Addr) (c125 : Nat), I2 s.1 s.2 ∧ St Try.f28.ntmps ⟨[(0, I ops), (1, I states), (2, V (.slice a1 m_.length c1)), (8, V (.slice a124 s.1.length c125)), (9, I a_116), (10, I ((out_112.length : Nat) : Int)), (11, I s.2)], []⟩ ρ a w χ ∧ Old w0 χ0 w χ ∧ RS tBool w χ a1 m_ c1 ∧ OS tI 3 w χ 1007 a124 s.1 c125) (fun s => μ2 s.1 s.2) (⟨out_112, 0⟩) ?_ ?_
            · exact ⟨ρ, _, a113, c114, hm0, hS.sel [0, 1, 2, 8, 9, 10, 11] [] (by kernel_rfl), hO, h111, h115⟩
            · rintro ⟨out_123, b_127⟩ a w152 ⟨ρ, χ151, a124, c125, hI, hS, hO, h122, h126⟩
              replace hm := hm out_123 b_127 hI
              clear hI hm0
              refine wseq ?_
              refine regP T hS (sp := []) (ks := [0, 1, 2, 8, 9, 10, 11, 40]) (bs := []) (sy' := ⟨[(0, I ops), (1, I states), (2, V (.slice a1 m_.length c1)), (8, V (.slice a124 out_123.length c125)), (9, I a_116), (10, I ((out_112.length : Nat) : Int)), (11, I b_127), (40, B (decide (b_127 < states)))], []⟩) (by kernel_rfl) ?_
              intro a hS
              refine wcond hS (b := decide (b_127 < states)) (by kernel_rfl) (fun hb => ?_) (fun hb => ?_)
              · replace hm := hm.1 hb
                refine wskip ?_
                refine wcut (fun a w => ∃ (ρ : Nat → Nat) (χ : Nat → Nat) (out_129 : List Int) (a130 : Option Addr) (c131 : Nat), VC28_J3 I2 μ2 out_123 b_127 out_129 ∧ St Try.f28.ntmps ⟨[(0, I ops), (1, I states), (2, V (.slice a1 m_.length c1)), (8, V (.slice a130 out_129.length c131)), (9, I a_116), (10, I ((out_112.length : Nat) : Int)), (11, I b_127)], []⟩ ρ a w χ ∧ Old w0 χ0 w χ ∧ RS tBool w χ a1 m_ c1 ∧ OS tI 3 w χ 1007 a130 out_129 c131) ?_ ?_
                · refine wblock ?_
                  refine regO ?_
                  refine opsP T hS 5 (sp := []) (ks := [0, 1, 2, 8, 9, 10, 11, 43, 44, 45, 46, 47]) (bs := []) (sy' := ⟨[(0, I ops), (1, I states), (2, V (.slice a1 m_.length c1)), (8, V (.slice a124 out_123.length c125)), (9, I a_116), (10, I ((out_112.length : Nat) : Int)), (11, I b_127), (43, V (.slice a1 m_.length c1)), (44, I ops), (45, I states), (46, I a_116), (47, I b_127)], []⟩) (by kernel_rfl) ?_
                  intro a hS
                  refine op1 (call hS (by kernel_rfl) (by kernel_rfl) hb60 (by kernel_rfl) (fun _ _ => rfl) (k60 _ _ ops states a_116 b_127) ?_)
                  intro v133 a w134 χ135 hE hp hS
                  replace hO := hO.mv hE rfl rfl
                  replace h122 := h122.mv hE rfl
                  replace h126 := h126.mv hE rfl rfl
                  clear hE
                  obtain ⟨r136, hr⟩ : ∃ r, ref31_State ops states a_116 b_127 = r := ⟨_, rfl⟩
                  replace hm := hm r136 hr
                  rw [hr] at hp
                  clear hr
                  subst hp
                  refine opsP T hS 1 (sp := []) (ks := [0, 1, 2, 8, 9, 10, 11, 43, 49]) (bs := []) (sy' := ⟨[(0, I ops), (1, I states), (2, V (.slice a1 m_.length c1)), (8, V (.slice a124 out_123.length c125)), (9, I a_116), (10, I ((out_112.length : Nat) : Int)), (11, I b_127), (43, V (.slice a1 m_.length c1)), (49, I (IntKind.i64.wrap (r136 - 1)))], []⟩) (by kernel_rfl) ?_
                  intro a hS
                  obtain ⟨hq, hm⟩ := hm
                  refine op1 (index (e := 4) (k := .i64) T hS (by kernel_rfl) (by kernel_rfl) (by kernel_rfl) (by kernel_rfl) h122 (by kernel_rfl) (by kernel_rfl) hq.1 hq.2 ?_)
                  intro A137 a h138 hS
                  clear hq
                  refine op1 (load1 T hS (by kernel_rfl) (by kernel_rfl) (by kernel_rfl) h138 rfl (by kernel_rfl) ?_)
                  intro v139 a hv hS
                  cases hv
                  refine doneK ?_
                  refine wcond hS (b := gi m_ (IntKind.i64.wrap (r136 - 1))) (by kernel_rfl) (fun hb => ?_) (fun hb => ?_)
                  · replace hm := hm.1 hb
                    refine region ?_
                    refine opsP T hS 2 (sp := []) (ks := [0, 1, 2, 8, 9, 10, 11, 52, 53]) (bs := []) (sy' := ⟨[(0, I ops), (1, I states), (2, V (.slice a1 m_.length c1)), (8, V (.slice a124 out_123.length c125)), (9, I a_116), (10, I ((out_112.length : Nat) : Int)), (11, I b_127), (52, V (.slice a124 out_123.length c125)), (53, I b_127)], []⟩) (by kernel_rfl) ?_
                    intro a hS
                    refine op1 (lit (E := 3) (col := 0) (T := tI) (vals := [.int .i64 b_127]) (ys := [b_127]) T hS (by kernel_rfl) (by kernel_rfl) (by kernel_rfl) (by kernel_rfl) (by exact ⟨rfl, trivial⟩) rfl (by kernel_rfl) (by kernel_rfl) (by kernel_rfl) (by kernel_rfl) ?_)
                    intro b140 a w141 χ142 hE h143 hN hS
                    clear hN
                    replace hO := hO.mv hE rfl rfl
                    replace h122 := h122.mv hE rfl
                    replace h126 := h126.mv hE rfl rfl
                    clear hE
                    replace h143 := h143.rs0
                    obtain ⟨hq, hm⟩ := hm
                    obtain ⟨news, hN⟩ := h143.src
                    refine op1 (append (E := 3) (T := tI) (col := 1007) (xs := out_123) T hS (by kernel_rfl) (by kernel_rfl) (by kernel_rfl) (by kernel_rfl) h126 hN (by kernel_rfl) (by kernel_rfl) (by kernel_rfl) (by kernel_rfl) hq ?_)
                    intro a147 c148 a w144 χ145 hE h146 hS
                    clear hq hN
                    clear h126
                    replace hO := hO.mv hE rfl rfl
                    replace h122 := h122.mv hE rfl
                    replace h143 := h143.mv hE rfl
                    clear hE
                    refine endP T hS (sp := []) (ks := [0, 1, 2, 8, 9, 10, 11]) (bs := []) (sy' := ⟨[(0, I ops), (1, I states), (2, V (.slice a1 m_.length c1)), (8, V (.slice a147 (out_123 ++ [b_127]).length c148)), (9, I a_116), (10, I ((out_112.length : Nat) : Int)), (11, I b_127)], []⟩) (by kernel_rfl) ?_
                    intro a hS
                    exact ⟨ρ, _, out_123 ++ [b_127], a147, c148, hm, hS.sel [0, 1, 2, 8, 9, 10, 11] [] (by kernel_rfl), hO, h122, h146⟩
                  · replace hm := hm.2 hb
                    refine wskip ?_
                    exact ⟨ρ, _, out_123, a124, c125, hm, hS.sel [0, 1, 2, 8, 9, 10, 11] [] (by kernel_rfl), hO, h122, h126⟩
                · rintro a w150 ⟨ρ, χ149, out_129, a130, c131, hm, hS, hO, h128, h132⟩
                  unfold VC28_J3 at hm
                  refine region (endP T hS (sp := []) (ks := [0, 1, 2, 8, 9, 10, 11]) (bs := []) (sy' := ⟨[(0, I ops), (1, I states), (2, V (.slice a1 m_.length c1)), (8, V (.slice a130 out_129.length c131)), (9, I a_116), (10, I ((out_112.length : Nat) : Int)), (11, I (IntKind.i64.wrap (b_127 + 1)))], []⟩) (by kernel_rfl) ?_)
                  intro a hS
                  exact ⟨⟨out_129, IntKind.i64.wrap (b_127 + 1)⟩, ⟨ρ, _, a130, c131, hm.1, hS.sel [0, 1, 2, 8, 9, 10, 11] [] (by kernel_rfl), hO, h128, h132⟩, hm.2⟩
              · replace hm := hm.2 hb
                refine wexit (by rfl) ?_
                exact ⟨ρ, _, out_123, a124, c125, hm, hS.sel [0, 1, 2, 8, 9, 10] [] (by kernel_rfl), hO, h122, h126⟩
          · rintro a w154 ⟨ρ, χ153, out_118, a119, c120, hm, hS, hO, h117, h121⟩
            unfold VC28_J2 at hm
            refine regP T hS (sp := []) (ks := [0, 1, 2, 8, 9, 60]) (bs := []) (sy' := ⟨[(0, I ops), (1, I states), (2, V (.slice a1 m_.length c1)), (8, V (.slice a119 out_118.length c120)), (9, I a_116), (60, B (((out_118.length : Nat) : Int) != (IntKind.i64.wrap (((out_112.length : Nat) : Int) + 1))))], []⟩) (by kernel_rfl) ?_
            intro a hS
            refine wcond hS (b := (((out_118.length : Nat) : Int) != (IntKind.i64.wrap (((out_112.length : Nat) : Int) + 1)))) (by kernel_rfl) (fun hb => ?_) (fun hb => ?_)
            · replace hm := hm.1 hb
              refine regP T hS (sp := []) (ks := [6, 7]) (bs := []) (sy' := ⟨[(6, V (.slice none 0 0)), (7, B false)], []⟩) (by kernel_rfl) ?_
              intro a hS
              refine wret ?_
              exact fin T hS hO (fun c => c) rfl (r := [.slice none 0 0, .bool false]) (by kernel_rfl) (fun χ' hM hC => ⟨([], false), hm, none, 0, rfl, RS.empty _ _ _⟩)
            · replace hm := hm.2 hb
              refine wskip ?_
              refine region (endP T hS (sp := []) (ks := [0, 1, 2, 8, 9]) (bs := []) (sy' := ⟨[(0, I ops), (1, I states), (2, V (.slice a1 m_.length c1)), (8, V (.slice a119 out_118.length c120)), (9, I (IntKind.i64.wrap (a_116 + 1)))], []⟩) (by kernel_rfl) ?_)
              intro a hS
              exact ⟨⟨out_118, IntKind.i64.wrap (a_116 + 1)⟩, ⟨ρ, _, a119, c120, hm.1, hS.sel [0, 1, 2, 8, 9] [] (by kernel_rfl), hO, h117, h121⟩, hm.2⟩
        · replace hm := hm.2 hb
          refine wexit (by rfl) ?_
          exact ⟨ρ, _, out_112, a113, c114, hm, hS.sel [8] [] (by kernel_rfl), hO, h115⟩
    · rintro a w158 ⟨ρ, χ157, out_105, a106, c107, hm, hS, hO, h108⟩
      unfold VC28_J1 at hm
      refine regP T hS (sp := []) (ks := [6, 7]) (bs := []) (sy' := ⟨[(6, V (.slice a106 out_105.length c107)), (7, B true)], []⟩) (by kernel_rfl) ?_
      intro a hS
      refine wret ?_
      obtain ⟨χ109, hE, hF⟩ := h108.freeze (by decide)
      replace hS := hS.ev hE (xone_box (by kernel_rfl))
      replace hO := hO.mv hE rfl rfl
      have h110 := hF; clear hE hF
      exact fin T hS hO (fun c => c) rfl (r := [.slice a106 out_105.length c107, .bool true]) (by kernel_rfl) (fun χ' hM hC => ⟨(out_105, true), hm, a106, c107, rfl, h110.m0 hM⟩)
theorem C28 (k22 : S22) (k60 : S60) (v : ∀ (ops : Int) (states : Int) (m_ : List Bool), VC28 ops states m_ (fun r => r = ref34_Row ops states m_)) : S28 := by
  intro w χ ops states m_ a1 c1   h1
  refine (W28 k22 k60 w χ ops states m_ a1 c1   _ (v ops states m_) h1).mono ?_
  rintro _ _ _ _ ⟨r, rfl, h⟩
  exact h
def S29 : Prop := ∀ (w : World) (χ : Nat → Nat) (s_ : Numbering_Size) (row : List Int) (a1 : Option Addr) (c1 : Nat), RS tI w χ a1 row c1 → Ret Try.prog 29 #[.agg #[.int .i64 s_.Ops, .int .i64 s_.States], .slice a1 row.length c1] xnone w χ (fun w χ' v => ∃ (ra1 : Option Addr) (rc1 : Nat), v = .tuple #[.slice ra1 ((states_Truths s_ row).1).length rc1, .bool ((states_Truths s_ row).2)] ∧ RS tBool w χ' ra1 ((states_Truths s_ row).1) rc1)
theorem hb29 : hasBody Try.prog 29 = true := by kernel_rfl
/-- replevin/states.Truths -/
theorem W29 (k21 : S21) (k23 : S23) (k59 : S59) (w0 : World) (χ0 : Nat → Nat) (s_ : Numbering_Size) (row : List Int) (a1 : Option Addr) (c1 : Nat) (Q : (List Bool) × Bool → Prop) (hm : VC29 s_ row Q) (h1 : RS tI w0 χ0 a1 row c1) :
    Ret Try.prog 29 #[.agg #[.int .i64 s_.Ops, .int .i64 s_.States], .slice a1 row.length c1] xnone w0 χ0 (fun w χ' v => ∃ r, Q r ∧ ∃ (ra1 : Option Addr) (rc1 : Nat), v = .tuple #[.slice ra1 r.1.length rc1, .bool r.2] ∧ RS tBool w χ' ra1 r.1 rc1) := by
  unfold VC29 at hm
  replace hm := hm (h1.sm (by kernel_rfl))
  refine enter Try.func29 rfl (vals := [.agg #[.int .i64 s_.Ops, .int .i64 s_.States], .slice a1 row.length c1]) (by kernel_rfl) ?_
  intro ρ a hS hO hM
  replace h1 := h1.m0 hM
  clear hM
  refine regM T hS (sp := []) (ks := [1, 2]) (bs := [3]) (sy' := ⟨[(1, V (.slice a1 row.length c1)), (2, Pt 3 0)], [(3, (23, [I s_.Ops, I s_.States]))]⟩) (by kernel_rfl) ?_
  intro ρ a w141 χ142 hS hE hr
  replace hO := hO.mv hE rfl rfl
  replace h1 := h1.mv hE rfl
  clear hE hr
  refine wseq ?_
  refine regO ?_
  refine opsP T hS 1 (sp := []) (ks := [1, 2, 9]) (bs := [3]) (sy' := ⟨[(1, V (.slice a1 row.length c1)), (2, Pt 3 0), (9, V (.agg #[.int .i64 s_.Ops, .int .i64 s_.States]))], [(3, (23, [I s_.Ops, I s_.States]))]⟩) (by kernel_rfl) ?_
  intro a hS
  refine op1 (call hS (by kernel_rfl) (by kernel_rfl) hb21 (by kernel_rfl) (fun _ _ => rfl) (k21 _ _ s_) ?_)
  intro v101 a w102 χ103 hE hp hS
  replace hO := hO.mv hE rfl rfl
  replace h1 := h1.mv hE rfl
  clear hE
  obtain ⟨r104, hr⟩ : ∃ r, numbering_Check s_ = r := ⟨_, rfl⟩
  replace hm := hm r104 hr
  rw [hr] at hp
  clear hr
  subst hp
  refine endP T hS (sp := [12]) (ks := [1, 2, 19]) (bs := [3]) (sy' := ⟨[(1, V (.slice a1 row.length c1)), (2, Pt 3 0), (19, B ((r104 != 0) || (((row.length : Nat) : Int) != (IntKind.i64.wrap (s_.Ops + 1)))))], [(3, (23, [I s_.Ops, I s_.States]))]⟩) (by kernel_rfl) ?_
  intro a hS
  refine wcond hS (b := ((r104 != 0) || (((row.length : Nat) : Int) != (IntKind.i64.wrap (s_.Ops + 1))))) (by kernel_rfl) (fun hb => ?_) (fun hb => ?_)
  · replace hm := hm.1 hb
    refine regP T hS (sp := []) (ks := [4, 5]) (bs := []) (sy' := ⟨[(4, V (.slice none 0 0)), (5, B false)], []⟩) (by kernel_rfl) ?_
    intro a hS
    refine wret ?_
    exact fin T hS hO (fun c => c) rfl (r := [.slice none 0 0, .bool false]) (by kernel_rfl) (fun χ' hM hC => ⟨([], false), hm, none, 0, rfl, RS.empty _ _ _⟩)
  · replace hm := hm.2 hb
    refine wskip ?_
    refine regO ?_
    refine opsP T hS 1 (sp := []) (ks := [1, 2, 20]) (bs := [3]) (sy' := ⟨[(1, V (.slice a1 row.length c1)), (2, Pt 3 0), (20, V (.agg #[.int .i64 s_.Ops, .int .i64 s_.States]))], [(3, (23, [I s_.Ops, I s_.States]))]⟩) (by kernel_rfl) ?_
    intro a hS
    refine op1 (call hS (by kernel_rfl) (by kernel_rfl) hb23 (by kernel_rfl) (fun _ _ => rfl) (k23 _ _ s_) ?_)
    intro v105 a w106 χ107 hE hp hS
    replace hO := hO.mv hE rfl rfl
    replace h1 := h1.mv hE rfl
    clear hE
    obtain ⟨r108, hr⟩ : ∃ r, numbering_Vars s_ = r := ⟨_, rfl⟩
    replace hm := hm r108 hr
    rw [hr] at hp
    clear hr
    subst hp
    obtain ⟨hq, hm⟩ := hm
    refine op1 (make (E := 4) (kl := .i64) (kc := .i64) (col := 1005) (T := tBool) T false hS (by kernel_rfl) (by kernel_rfl) (by kernel_rfl) (by kernel_rfl) (by kernel_rfl) (by kernel_rfl) hq.1 hq.2.1 (by have := hq.2.2; simp only [tI, tInt, tBool, tStr, tSlice]; omega) (by have := hq.2.2; omega) (fun _ _ => rfl) ?_)
    intro b109 a w110 χ111 hE h112 hN hS
    clear hq hN
    replace hO := hO.mv hE rfl rfl
    replace h1 := h1.mv hE rfl
    clear hE
    replace hS := hS.conv (t := 22) (y := .slice (some ⟨b109, 0, none⟩) (List.replicate r108.toNat (false : Bool)).length r108.toNat) (by kernel_rfl) (by rw [List.length_replicate])
    refine endP T hS (sp := []) (ks := [1, 2, 6]) (bs := [3]) (sy' := ⟨[(1, V (.slice a1 row.length c1)), (2, Pt 3 0), (6, V (.slice (some ⟨b109, 0, none⟩) (List.replicate r108.toNat (false : Bool)).length r108.toNat))], [(3, (23, [I s_.Ops, I s_.States]))]⟩) (by kernel_rfl) ?_
    intro a hS
    refine wcut (fun a w => ∃ (ρ : Nat → Nat) (χ : Nat → Nat) (m_113 : List Bool) (a114 : Option Addr) (c115 : Nat), VC29_J1 Q m_113 ∧ St Try.f29.ntmps ⟨[(6, V (.slice a114 m_113.length c115))], []⟩ ρ a w χ ∧ Old w0 χ0 w χ ∧ OS tBool 4 w χ 1005 a114 m_113 c115) ?_ ?_
    · refine regP T hS (sp := []) (ks := [2, 6, 23, 24, 25]) (bs := [3]) (sy' := ⟨[(2, Pt 3 0), (6, V (.slice (some ⟨b109, 0, none⟩) (List.replicate r108.toNat (false : Bool)).length r108.toNat)), (23, V (.slice a1 row.length c1)), (24, I ((row.length : Nat) : Int)), (25, I 0)], [(3, (23, [I s_.Ops, I s_.States]))]⟩) (by kernel_rfl) ?_
      intro a hS
      refine wblock ?_
      obtain ⟨I1, μ1, hm0, hm⟩ := hm
      refine wloop (σ := (List Bool) × Int) (fun s a w => ∃ (ρ : Nat → Nat) (χ : Nat → Nat) (a120 : Option Addr) (c121 : Nat), I1 s.1 s.2 ∧ St Try.f29.ntmps ⟨[(2, Pt 3 0), (6, V (.slice a120 s.1.length c121)), (23, V (.slice a1 row.length c1)), (24, I ((row.length : Nat) : Int)), (25, I s.2)], [(3, (23, [I s_.Ops, I s_.States]))]⟩ ρ a w χ ∧ Old w0 χ0 w χ ∧ OS tBool 4 w χ 1005 a120 s.1 c121 ∧ RS tI w χ a1 row c1) (fun s => μ1 s.1 s.2) (⟨List.replicate r108.toNat (false : Bool), 0⟩) ?_ ?_
      · exact ⟨ρ, _, (some ⟨b109, 0, none⟩), r108.toNat, hm0, hS.sel [2, 6, 23, 24, 25] [3] (by kernel_rfl), hO, h112, h1⟩
      · rintro ⟨m_119, x_124⟩ a w138 ⟨ρ, χ137, a120, c121, hI, hS, hO, h122, h123⟩
        replace hm := hm m_119 x_124 hI
        clear hI hm0
        refine regP T hS (sp := []) (ks := [2, 6, 23, 24, 25, 26]) (bs := [3]) (sy' := ⟨[(2, Pt 3 0), (6, V (.slice a120 m_119.length c121)), (23, V (.slice a1 row.length c1)), (24, I ((row.length : Nat) : Int)), (25, I x_124), (26, B (decide (x_124 < ((row.length : Nat) : Int))))], [(3, (23, [I s_.Ops, I s_.States]))]⟩) (by kernel_rfl) ?_
        intro a hS
        refine wseq ?_
        refine wcond hS (b := decide (x_124 < ((row.length : Nat) : Int))) (by kernel_rfl) (fun hb => ?_) (fun hb => ?_)
        · replace hm := hm.1 hb
          refine wskip ?_
          refine wseq ?_
          refine wblock ?_
          refine regO ?_
          refine opsP T hS 1 (sp := []) (ks := [2, 6, 23, 24, 25, 27]) (bs := [3]) (sy' := ⟨[(2, Pt 3 0), (6, V (.slice a120 m_119.length c121)), (23, V (.slice a1 row.length c1)), (24, I ((row.length : Nat) : Int)), (25, I x_124), (27, I x_124)], [(3, (23, [I s_.Ops, I s_.States]))]⟩) (by kernel_rfl) ?_
          intro a hS
          obtain ⟨hq, hm⟩ := hm
          refine op1 (index (e := 3) (k := .i64) T hS (by kernel_rfl) (by kernel_rfl) (by kernel_rfl) (by kernel_rfl) h123 (by kernel_rfl) (by kernel_rfl) hq.1 hq.2 ?_)
          intro A125 a h126 hS
          clear hq
          refine op1 (load1 T hS (by kernel_rfl) (by kernel_rfl) (by kernel_rfl) h126 rfl (by kernel_rfl) ?_)
          intro v127 a hv hS
          cases hv
          refine endP T hS (sp := []) (ks := [2, 6, 7, 8, 23, 24, 25]) (bs := [3]) (sy' := ⟨[(2, Pt 3 0), (6, V (.slice a120 m_119.length c121)), (7, I x_124), (8, I (gi row x_124)), (23, V (.slice a1 row.length c1)), (24, I ((row.length : Nat) : Int)), (25, I x_124)], [(3, (23, [I s_.Ops, I s_.States]))]⟩) (by kernel_rfl) ?_
          intro a hS
          refine wseq ?_
          refine regP T hS (sp := [32]) (ks := [2, 6, 7, 8, 23, 24, 25, 37]) (bs := [3]) (sy' := ⟨[(2, Pt 3 0), (6, V (.slice a120 m_119.length c121)), (7, I x_124), (8, I (gi row x_124)), (23, V (.slice a1 row.length c1)), (24, I ((row.length : Nat) : Int)), (25, I x_124), (37, B ((decide ((gi row x_124) < 0)) || (decide ((gi row x_124) ≥ s_.States))))], [(3, (23, [I s_.Ops, I s_.States]))]⟩) (by kernel_rfl) ?_
          intro a hS
          refine wcond hS (b := ((decide ((gi row x_124) < 0)) || (decide ((gi row x_124) ≥ s_.States)))) (by kernel_rfl) (fun hb => ?_) (fun hb => ?_)
          · replace hm := hm.1 hb
            refine regP T hS (sp := []) (ks := [4, 5]) (bs := []) (sy' := ⟨[(4, V (.slice none 0 0)), (5, B false)], []⟩) (by kernel_rfl) ?_
            intro a hS
            refine wret ?_
            exact fin T hS hO (fun c => c) rfl (r := [.slice none 0 0, .bool false]) (by kernel_rfl) (fun χ' hM hC => ⟨([], false), hm, none, 0, rfl, RS.empty _ _ _⟩)
          · replace hm := hm.2 hb
            refine wskip ?_
            refine region ?_
            refine opsP T hS 4 (sp := []) (ks := [2, 6, 23, 24, 25, 38, 39, 40, 41]) (bs := [3]) (sy' := ⟨[(2, Pt 3 0), (6, V (.slice a120 m_119.length c121)), (23, V (.slice a1 row.length c1)), (24, I ((row.length : Nat) : Int)), (25, I x_124), (38, V (.slice a120 m_119.length c121)), (39, V (.agg #[.int .i64 s_.Ops, .int .i64 s_.States])), (40, I x_124), (41, I (gi row x_124))], [(3, (23, [I s_.Ops, I s_.States]))]⟩) (by kernel_rfl) ?_
            intro a hS
            refine op1 (call hS (by kernel_rfl) (by kernel_rfl) hb59 (by kernel_rfl) (fun _ _ => rfl) (k59 _ _ s_ x_124 (gi row x_124)) ?_)
            intro v128 a w129 χ130 hE hp hS
            replace hO := hO.mv hE rfl rfl
            replace h122 := h122.mv hE rfl rfl
            replace h123 := h123.mv hE rfl
            clear hE
            obtain ⟨r131, hr⟩ : ∃ r, states_at s_ x_124 (gi row x_124) = r := ⟨_, rfl⟩
            replace hm := hm r131 hr
            rw [hr] at hp
            clear hr
            subst hp
            refine opsP T hS 1 (sp := []) (ks := [2, 6, 23, 24, 25, 38, 43]) (bs := [3]) (sy' := ⟨[(2, Pt 3 0), (6, V (.slice a120 m_119.length c121)), (23, V (.slice a1 row.length c1)), (24, I ((row.length : Nat) : Int)), (25, I x_124), (38, V (.slice a120 m_119.length c121)), (43, I (IntKind.i64.wrap (r131 - 1)))], [(3, (23, [I s_.Ops, I s_.States]))]⟩) (by kernel_rfl) ?_
            intro a hS
            obtain ⟨hq, hm⟩ := hm
            refine op1 (indexO (E := 4) (k := .i64) T hS (by kernel_rfl) (by kernel_rfl) (by kernel_rfl) (by kernel_rfl) h122 (by kernel_rfl) (by kernel_rfl) hq.1 hq.2 ?_)
            intro A132 a h134 h133 hS
            refine op1 (storeO (x := true) (v := B true) (i := (IntKind.i64.wrap (r131 - 1)).toNat) (E := 4) (xs := m_119) T hS (by kernel_rfl) (by kernel_rfl) (by kernel_rfl) (by kernel_rfl) h122 h134 (by have := hq.1; have := hq.2; omega) (by kernel_rfl) (fun _ _ _ => rfl) ?_)
            intro a w135 hE h136 hS
            clear h122 h134 h133 hq
            replace hO := hO.mv hE rfl rfl
            replace h123 := h123.mv hE rfl
            clear hE
            replace hS := hS.conv (t := 6) (y := .slice a120 (m_119.set (IntKind.i64.wrap (r131 - 1)).toNat true).length c121) (by kernel_rfl) (by rw [List.length_set])
            replace hS := hS.conv (t := 38) (y := .slice a120 (m_119.set (IntKind.i64.wrap (r131 - 1)).toNat true).length c121) (by kernel_rfl) (by rw [List.length_set])
            refine doneK ?_
            refine region (endP T hS (sp := []) (ks := [2, 6, 23, 24, 25]) (bs := [3]) (sy' := ⟨[(2, Pt 3 0), (6, V (.slice a120 (m_119.set (IntKind.i64.wrap (r131 - 1)).toNat true).length c121)), (23, V (.slice a1 row.length c1)), (24, I ((row.length : Nat) : Int)), (25, I (IntKind.i64.wrap (x_124 + 1)))], [(3, (23, [I s_.Ops, I s_.States]))]⟩) (by kernel_rfl) ?_)
            intro a hS
            exact ⟨⟨(m_119.set (IntKind.i64.wrap (r131 - 1)).toNat true), IntKind.i64.wrap (x_124 + 1)⟩, ⟨ρ, _, a120, c121, hm.1, hS.sel [2, 6, 23, 24, 25] [3] (by kernel_rfl), hO, h136, h123⟩, hm.2⟩
        · replace hm := hm.2 hb
          refine wexit (by rfl) ?_
          exact ⟨ρ, _, m_119, a120, c121, hm, hS.sel [6] [] (by kernel_rfl), hO, h122⟩
    · rintro a w140 ⟨ρ, χ139, m_113, a114, c115, hm, hS, hO, h116⟩
      unfold VC29_J1 at hm
      refine regP T hS (sp := []) (ks := [4, 5]) (bs := []) (sy' := ⟨[(4, V (.slice a114 m_113.length c115)), (5, B true)], []⟩) (by kernel_rfl) ?_
      intro a hS
      refine wret ?_
      obtain ⟨χ117, hE, hF⟩ := h116.freeze (by decide)
      replace hS := hS.ev hE (xone_box (by kernel_rfl))
      replace hO := hO.mv hE rfl rfl
      have h118 := hF; clear hE hF
      exact fin T hS hO (fun c => c) rfl (r := [.slice a114 m_113.length c115, .bool true]) (by kernel_rfl) (fun χ' hM hC => ⟨(m_113, true), hm, a114, c115, rfl, h118.m0 hM⟩)
theorem C29 (k21 : S21) (k23 : S23) (k59 : S59) (v : ∀ (s_ : Numbering_Size) (row : List Int), VC29 s_ row (fun r => r = states_Truths s_ row)) : S29 := by
  intro w χ s_ row a1 c1   h1
  refine (W29 k21 k23 k59 w χ s_ row a1 c1   _ (v s_ row) h1).mono ?_
  rintro _ _ _ _ ⟨r, rfl, h⟩
  exact h
def S30 : Prop := ∀ (w : World) (χ : Nat → Nat) (ops : Int) (states : Int) (row : List Int) (a1 : Option Addr) (c1 : Nat), RS tI w χ a1 row c1 → Ret Try.prog 30 #[.int .i64 ops, .int .i64 states, .slice a1 row.length c1] xnone w χ (fun w χ' v => ∃ (ra1 : Option Addr) (rc1 : Nat), v = .tuple #[.slice ra1 ((ref34_Truths ops states row).1).length rc1, .bool ((ref34_Truths ops states row).2)] ∧ RS tBool w χ' ra1 ((ref34_Truths ops states row).1) rc1)
theorem hb30 : hasBody Try.prog 30 = true := by kernel_rfl
/-- replevin/replevinref34.Truths -/
theorem W30 (k22 : S22) (w0 : World) (χ0 : Nat → Nat) (ops : Int) (states : Int) (row : List Int) (a1 : Option Addr) (c1 : Nat) (Q : (List Bool) × Bool → Prop) (hm : VC30 ops states row Q) (h1 : RS tI w0 χ0 a1 row c1) :
    Ret Try.prog 30 #[.int .i64 ops, .int .i64 states, .slice a1 row.length c1] xnone w0 χ0 (fun w χ' v => ∃ r, Q r ∧ ∃ (ra1 : Option Addr) (rc1 : Nat), v = .tuple #[.slice ra1 r.1.length rc1, .bool r.2] ∧ RS tBool w χ' ra1 r.1 rc1) := by
  unfold VC30 at hm
  replace hm := hm (h1.sm (by kernel_rfl))
  refine enter Try.func30 rfl (vals := [.int .i64 ops, .int .i64 states, .slice a1 row.length c1]) (by kernel_rfl) ?_
  intro ρ a hS hO hM
  replace h1 := h1.m0 hM
  clear hM
  refine regP T hS (sp := []) (ks := [0, 1, 2]) (bs := []) (sy' := ⟨[(0, I ops), (1, I states), (2, V (.slice a1 row.length c1))], []⟩) (by kernel_rfl) ?_
  intro a hS
  refine wseq ?_
  refine regO ?_
  refine opsP T hS 2 (sp := []) (ks := [0, 1, 2, 11, 12]) (bs := []) (sy' := ⟨[(0, I ops), (1, I states), (2, V (.slice a1 row.length c1)), (11, I ops), (12, I states)], []⟩) (by kernel_rfl) ?_
  intro a hS
  refine op1 (call hS (by kernel_rfl) (by kernel_rfl) hb22 (by kernel_rfl) (fun _ _ => rfl) (k22 _ _ ops states) ?_)
  intro v101 a w102 χ103 hE hp hS
  replace hO := hO.mv hE rfl rfl
  replace h1 := h1.mv hE rfl
  clear hE
  obtain ⟨r104, hr⟩ : ∃ r, ref31_Check ops states = r := ⟨_, rfl⟩
  replace hm := hm r104 hr
  rw [hr] at hp
  clear hr
  subst hp
  refine endP T hS (sp := [15]) (ks := [0, 1, 2, 21]) (bs := []) (sy' := ⟨[(0, I ops), (1, I states), (2, V (.slice a1 row.length c1)), (21, B ((r104 != 0) || (((row.length : Nat) : Int) != (IntKind.i64.wrap (ops + 1)))))], []⟩) (by kernel_rfl) ?_
  intro a hS
  refine wcond hS (b := ((r104 != 0) || (((row.length : Nat) : Int) != (IntKind.i64.wrap (ops + 1))))) (by kernel_rfl) (fun hb => ?_) (fun hb => ?_)
  · replace hm := hm.1 hb
    refine regP T hS (sp := []) (ks := [6, 7]) (bs := []) (sy' := ⟨[(6, V (.slice none 0 0)), (7, B false)], []⟩) (by kernel_rfl) ?_
    intro a hS
    refine wret ?_
    exact fin T hS hO (fun c => c) rfl (r := [.slice none 0 0, .bool false]) (by kernel_rfl) (fun χ' hM hC => ⟨([], false), hm, none, 0, rfl, RS.empty _ _ _⟩)
  · replace hm := hm.2 hb
    refine wskip ?_
    refine regO ?_
    refine opsP T hS 5 (sp := []) (ks := [0, 1, 2, 26]) (bs := []) (sy' := ⟨[(0, I ops), (1, I states), (2, V (.slice a1 row.length c1)), (26, I (IntKind.i64.wrap ((IntKind.i64.wrap (ops * ops)) + ops)))], []⟩) (by kernel_rfl) ?_
    intro a hS
    obtain ⟨hq, hm⟩ := hm
    refine op1 (make (E := 4) (kl := .i64) (kc := .i64) (col := 1007) (T := tBool) T false hS (by kernel_rfl) (by kernel_rfl) (by kernel_rfl) (by kernel_rfl) (by kernel_rfl) (by kernel_rfl) hq.1 hq.2.1 (by have := hq.2.2; simp only [tI, tInt, tBool, tStr, tSlice]; omega) (by have := hq.2.2; omega) (fun _ _ => rfl) ?_)
    intro b105 a w106 χ107 hE h108 hN hS
    clear hq hN
    replace hO := hO.mv hE rfl rfl
    replace h1 := h1.mv hE rfl
    clear hE
    replace hS := hS.conv (t := 27) (y := .slice (some ⟨b105, 0, none⟩) (List.replicate (IntKind.i64.wrap ((IntKind.i64.wrap (ops * ops)) + ops)).toNat (false : Bool)).length (IntKind.i64.wrap ((IntKind.i64.wrap (ops * ops)) + ops)).toNat) (by kernel_rfl) (by rw [List.length_replicate])
    refine endP T hS (sp := []) (ks := [0, 1, 2, 8]) (bs := []) (sy' := ⟨[(0, I ops), (1, I states), (2, V (.slice a1 row.length c1)), (8, V (.slice (some ⟨b105, 0, none⟩) (List.replicate (IntKind.i64.wrap ((IntKind.i64.wrap (ops * ops)) + ops)).toNat (false : Bool)).length (IntKind.i64.wrap ((IntKind.i64.wrap (ops * ops)) + ops)).toNat))], []⟩) (by kernel_rfl) ?_
    intro a hS
    refine wcut (fun a w => ∃ (ρ : Nat → Nat) (χ : Nat → Nat) (m_109 : List Bool) (a110 : Option Addr) (c111 : Nat), VC30_J1 Q m_109 ∧ St Try.f30.ntmps ⟨[(8, V (.slice a110 m_109.length c111))], []⟩ ρ a w χ ∧ Old w0 χ0 w χ ∧ OS tBool 4 w χ 1007 a110 m_109 c111) ?_ ?_
    · refine regP T hS (sp := []) (ks := [0, 1, 2, 8, 9]) (bs := []) (sy' := ⟨[(0, I ops), (1, I states), (2, V (.slice a1 row.length c1)), (8, V (.slice (some ⟨b105, 0, none⟩) (List.replicate (IntKind.i64.wrap ((IntKind.i64.wrap (ops * ops)) + ops)).toNat (false : Bool)).length (IntKind.i64.wrap ((IntKind.i64.wrap (ops * ops)) + ops)).toNat)), (9, I 0)], []⟩) (by kernel_rfl) ?_
      intro a hS
      refine wblock ?_
      obtain ⟨I1, μ1, hm0, hm⟩ := hm
      refine wloop (σ := (List Bool) × Int) (fun s a w => ∃ (ρ : Nat → Nat) (χ : Nat → Nat) (a117 : Option Addr) (c118 : Nat), I1 s.1 s.2 ∧ St Try.f30.ntmps ⟨[(0, I ops), (1, I states), (2, V (.slice a1 row.length c1)), (8, V (.slice a117 s.1.length c118)), (9, I s.2)], []⟩ ρ a w χ ∧ Old w0 χ0 w χ ∧ RS tI w χ a1 row c1 ∧ OS tBool 4 w χ 1007 a117 s.1 c118) (fun s => μ1 s.1 s.2) (⟨List.replicate (IntKind.i64.wrap ((IntKind.i64.wrap (ops * ops)) + ops)).toNat (false : Bool), 0⟩) ?_ ?_
      · exact ⟨ρ, _, (some ⟨b105, 0, none⟩), (IntKind.i64.wrap ((IntKind.i64.wrap (ops * ops)) + ops)).toNat, hm0, hS.sel [0, 1, 2, 8, 9] [] (by kernel_rfl), hO, h1, h108⟩
      · rintro ⟨m_116, a_120⟩ a w163 ⟨ρ, χ162, a117, c118, hI, hS, hO, h115, h119⟩
        replace hm := hm m_116 a_120 hI
        clear hI hm0
        refine wseq ?_
        refine regP T hS (sp := []) (ks := [0, 1, 2, 8, 9, 30]) (bs := []) (sy' := ⟨[(0, I ops), (1, I states), (2, V (.slice a1 row.length c1)), (8, V (.slice a117 m_116.length c118)), (9, I a_120), (30, B (decide (a_120 ≤ ops)))], []⟩) (by kernel_rfl) ?_
        intro a hS
        refine wcond hS (b := decide (a_120 ≤ ops)) (by kernel_rfl) (fun hb => ?_) (fun hb => ?_)
        · replace hm := hm.1 hb
          refine wskip ?_
          refine wcut (fun a w => ∃ (ρ : Nat → Nat) (χ : Nat → Nat) (m_122 : List Bool) (a123 : Option Addr) (c124 : Nat), VC30_J2 I1 μ1 m_116 a_120 m_122 ∧ St Try.f30.ntmps ⟨[(0, I ops), (1, I states), (2, V (.slice a1 row.length c1)), (8, V (.slice a123 m_122.length c124)), (9, I a_120)], []⟩ ρ a w χ ∧ Old w0 χ0 w χ ∧ RS tI w χ a1 row c1 ∧ OS tBool 4 w χ 1007 a123 m_122 c124) ?_ ?_
          · refine wblock ?_
            refine wseq ?_
            refine wcut (fun a w => ∃ (ρ : Nat → Nat) (χ : Nat → Nat) (m_127 : List Bool) (x_131 : Bool) (a128 : Option Addr) (c129 : Nat), VC30_J3 states row Q I1 μ1 m_116 a_120 m_127 x_131 ∧ St Try.f30.ntmps ⟨[(0, I ops), (1, I states), (2, V (.slice a1 row.length c1)), (8, V (.slice a128 m_127.length c129)), (9, I a_120), (45, B x_131)], []⟩ ρ a w χ ∧ Old w0 χ0 w χ ∧ RS tI w χ a1 row c1 ∧ OS tBool 4 w χ 1007 a128 m_127 c129) ?_ ?_
            · refine region ?_
              refine opsP T hS 2 (sp := []) (ks := [0, 1, 2, 8, 9, 33, 34]) (bs := []) (sy' := ⟨[(0, I ops), (1, I states), (2, V (.slice a1 row.length c1)), (8, V (.slice a117 m_116.length c118)), (9, I a_120), (33, V (.slice a1 row.length c1)), (34, I a_120)], []⟩) (by kernel_rfl) ?_
              intro a hS
              obtain ⟨hq, hm⟩ := hm
              refine op1 (index (e := 3) (k := .i64) T hS (by kernel_rfl) (by kernel_rfl) (by kernel_rfl) (by kernel_rfl) h115 (by kernel_rfl) (by kernel_rfl) hq.1 hq.2 ?_)
              intro A152 a h153 hS
              clear hq
              refine op1 (load1 T hS (by kernel_rfl) (by kernel_rfl) (by kernel_rfl) h153 rfl (by kernel_rfl) ?_)
              intro v154 a hv hS
              cases hv
              refine opsP T hS 2 (sp := []) (ks := [0, 1, 2, 8, 9, 38]) (bs := []) (sy' := ⟨[(0, I ops), (1, I states), (2, V (.slice a1 row.length c1)), (8, V (.slice a117 m_116.length c118)), (9, I a_120), (38, B (decide ((gi row a_120) < 0)))], []⟩) (by kernel_rfl) ?_
              intro a hS
              rcases Bool.eq_false_or_eq_true (decide ((gi row a_120) < 0)) with hb | hb
              · replace hS := hS.lit (t := 38) (by kernel_rfl) hb
                replace hm := hm.1 hb
                refine endP T hS (sp := []) (ks := [0, 1, 2, 8, 9, 45]) (bs := []) (sy' := ⟨[(0, I ops), (1, I states), (2, V (.slice a1 row.length c1)), (8, V (.slice a117 m_116.length c118)), (9, I a_120), (45, B true)], []⟩) (by kernel_rfl) ?_
                intro a hS
                exact ⟨ρ, _, m_116, true, a117, c118, hm, hS.sel [0, 1, 2, 8, 9, 45] [] (by kernel_rfl), hO, h115, h119⟩
              · replace hS := hS.lit (t := 38) (by kernel_rfl) hb
                replace hm := hm.2 hb
                refine opsP T hS 2 (sp := []) (ks := [0, 1, 2, 8, 9, 38, 39, 40]) (bs := []) (sy' := ⟨[(0, I ops), (1, I states), (2, V (.slice a1 row.length c1)), (8, V (.slice a117 m_116.length c118)), (9, I a_120), (38, B false), (39, V (.slice a1 row.length c1)), (40, I a_120)], []⟩) (by kernel_rfl) ?_
                intro a hS
                obtain ⟨hq, hm⟩ := hm
                refine op1 (index (e := 3) (k := .i64) T hS (by kernel_rfl) (by kernel_rfl) (by kernel_rfl) (by kernel_rfl) h115 (by kernel_rfl) (by kernel_rfl) hq.1 hq.2 ?_)
                intro A155 a h156 hS
                clear hq
                refine op1 (load1 T hS (by kernel_rfl) (by kernel_rfl) (by kernel_rfl) h156 rfl (by kernel_rfl) ?_)
                intro v157 a hv hS
                cases hv
                refine endP T hS (sp := []) (ks := [0, 1, 2, 8, 9, 39, 40, 41, 42, 43, 44, 45]) (bs := []) (sy' := ⟨[(0, I ops), (1, I states), (2, V (.slice a1 row.length c1)), (8, V (.slice a117 m_116.length c118)), (9, I a_120), (39, V (.slice a1 row.length c1)), (40, I a_120), (41, V (.pointer (some A155))), (42, I (gi row a_120)), (43, I states), (44, B (decide ((gi row a_120) ≥ states))), (45, B (decide ((gi row a_120) ≥ states)))], []⟩) (by kernel_rfl) ?_
                intro a hS
                exact ⟨ρ, _, m_116, decide ((gi row a_120) ≥ states), a117, c118, hm, hS.sel [0, 1, 2, 8, 9, 45] [] (by kernel_rfl), hO, h115, h119⟩
            · rintro a w159 ⟨ρ, χ158, m_127, x_131, a128, c129, hm, hS, hO, h126, h130⟩
              unfold VC30_J3 at hm
              refine wcond hS (b := x_131) (by kernel_rfl) (fun hb => ?_) (fun hb => ?_)
              · replace hm := hm.1 hb
                refine regP T hS (sp := []) (ks := [6, 7]) (bs := []) (sy' := ⟨[(6, V (.slice none 0 0)), (7, B false)], []⟩) (by kernel_rfl) ?_
                intro a hS
                refine wret ?_
                exact fin T hS hO (fun c => c) rfl (r := [.slice none 0 0, .bool false]) (by kernel_rfl) (fun χ' hM hC => ⟨([], false), hm, none, 0, rfl, RS.empty _ _ _⟩)
              · replace hm := hm.2 hb
                refine wskip ?_
                refine regP T hS (sp := []) (ks := [0, 1, 2, 8, 9, 10]) (bs := []) (sy' := ⟨[(0, I ops), (1, I states), (2, V (.slice a1 row.length c1)), (8, V (.slice a128 m_127.length c129)), (9, I a_120), (10, I 0)], []⟩) (by kernel_rfl) ?_
                intro a hS
                refine wblock ?_
                obtain ⟨I2, μ2, hm0, hm⟩ := hm
                refine wloop (σ := (List Bool) × Int) (fun s a w => ∃ (ρ : Nat → Nat) (χ : Nat → Nat) (a134 : Option Addr) (c135 : Nat), I2 s.1 s.2 ∧ St Try.f30.ntmps ⟨[(0, I ops), (1, I states), (2, V (.slice a1 row.length c1)), (8, V (.slice a134 s.1.length c135)), (9, I a_120), (10, I s.2)], []⟩ ρ a w χ ∧ Old w0 χ0 w χ ∧ RS tI w χ a1 row c1 ∧ OS tBool 4 w χ 1007 a134 s.1 c135) (fun s => μ2 s.1 s.2) (⟨m_127, 0⟩) ?_ ?_
                · exact ⟨ρ, _, a128, c129, hm0, hS.sel [0, 1, 2, 8, 9, 10] [] (by kernel_rfl), hO, h126, h130⟩
                · rintro ⟨m_133, b_137⟩ a w151 ⟨ρ, χ150, a134, c135, hI, hS, hO, h132, h136⟩
                  replace hm := hm m_133 b_137 hI
                  clear hI hm0
                  refine wseq ?_
                  refine regP T hS (sp := []) (ks := [0, 1, 2, 8, 9, 10, 48]) (bs := []) (sy' := ⟨[(0, I ops), (1, I states), (2, V (.slice a1 row.length c1)), (8, V (.slice a134 m_133.length c135)), (9, I a_120), (10, I b_137), (48, B (decide (b_137 < states)))], []⟩) (by kernel_rfl) ?_
                  intro a hS
                  refine wcond hS (b := decide (b_137 < states)) (by kernel_rfl) (fun hb => ?_) (fun hb => ?_)
                  · replace hm := hm.1 hb
                    refine wskip ?_
                    refine wseq ?_
                    refine wblock ?_
                    refine region ?_
                    refine opsP T hS 4 (sp := []) (ks := [0, 1, 2, 8, 9, 10, 51, 52, 53, 54]) (bs := []) (sy' := ⟨[(0, I ops), (1, I states), (2, V (.slice a1 row.length c1)), (8, V (.slice a134 m_133.length c135)), (9, I a_120), (10, I b_137), (51, V (.slice a134 m_133.length c135)), (52, I b_137), (53, V (.slice a1 row.length c1)), (54, I a_120)], []⟩) (by kernel_rfl) ?_
                    intro a hS
                    obtain ⟨hq, hm⟩ := hm
                    refine op1 (index (e := 3) (k := .i64) T hS (by kernel_rfl) (by kernel_rfl) (by kernel_rfl) (by kernel_rfl) h132 (by kernel_rfl) (by kernel_rfl) hq.1 hq.2 ?_)
                    intro A138 a h139 hS
                    clear hq
                    refine op1 (load1 T hS (by kernel_rfl) (by kernel_rfl) (by kernel_rfl) h139 rfl (by kernel_rfl) ?_)
                    intro v140 a hv hS
                    cases hv
                    refine opsP T hS 1 (sp := []) (ks := [0, 1, 2, 8, 9, 10, 51, 57]) (bs := []) (sy' := ⟨[(0, I ops), (1, I states), (2, V (.slice a1 row.length c1)), (8, V (.slice a134 m_133.length c135)), (9, I a_120), (10, I b_137), (51, V (.slice a134 m_133.length c135)), (57, B (b_137 == (gi row a_120)))], []⟩) (by kernel_rfl) ?_
                    intro a hS
                    refine op1 (lit (E := 4) (col := 0) (T := tBool) (vals := [.bool (b_137 == (gi row a_120))]) (ys := [(b_137 == (gi row a_120))]) T hS (by kernel_rfl) (by kernel_rfl) (by kernel_rfl) (by kernel_rfl) (by exact ⟨rfl, trivial⟩) rfl (by kernel_rfl) (by kernel_rfl) (by kernel_rfl) (by kernel_rfl) ?_)
                    intro b141 a w142 χ143 hE h144 hN hS
                    clear hN
                    replace hO := hO.mv hE rfl rfl
                    replace h132 := h132.mv hE rfl
                    replace h136 := h136.mv hE rfl rfl
                    clear hE
                    replace h144 := h144.rs0
                    obtain ⟨hq, hm⟩ := hm
                    obtain ⟨news, hN⟩ := h144.src
                    refine op1 (append (E := 4) (T := tBool) (col := 1007) (xs := m_133) T hS (by kernel_rfl) (by kernel_rfl) (by kernel_rfl) (by kernel_rfl) h136 hN (by kernel_rfl) (by kernel_rfl) (by kernel_rfl) (by kernel_rfl) hq ?_)
                    intro a148 c149 a w145 χ146 hE h147 hS
                    clear hq hN
                    clear h136
                    replace hO := hO.mv hE rfl rfl
                    replace h132 := h132.mv hE rfl
                    replace h144 := h144.mv hE rfl
                    clear hE
                    refine endP T hS (sp := []) (ks := [0, 1, 2, 8, 9, 10]) (bs := []) (sy' := ⟨[(0, I ops), (1, I states), (2, V (.slice a1 row.length c1)), (8, V (.slice a148 (m_133 ++ [(b_137 == (gi row a_120))]).length c149)), (9, I a_120), (10, I b_137)], []⟩) (by kernel_rfl) ?_
                    intro a hS
                    refine region (endP T hS (sp := []) (ks := [0, 1, 2, 8, 9, 10]) (bs := []) (sy' := ⟨[(0, I ops), (1, I states), (2, V (.slice a1 row.length c1)), (8, V (.slice a148 (m_133 ++ [(b_137 == (gi row a_120))]).length c149)), (9, I a_120), (10, I (IntKind.i64.wrap (b_137 + 1)))], []⟩) (by kernel_rfl) ?_)
                    intro a hS
                    exact ⟨⟨m_133 ++ [(b_137 == (gi row a_120))], IntKind.i64.wrap (b_137 + 1)⟩, ⟨ρ, _, a148, c149, hm.1, hS.sel [0, 1, 2, 8, 9, 10] [] (by kernel_rfl), hO, h132, h147⟩, hm.2⟩
                  · replace hm := hm.2 hb
                    refine wexit (by rfl) ?_
                    exact ⟨ρ, _, m_133, a134, c135, hm, hS.sel [0, 1, 2, 8, 9] [] (by kernel_rfl), hO, h132, h136⟩
          · rintro a w161 ⟨ρ, χ160, m_122, a123, c124, hm, hS, hO, h121, h125⟩
            unfold VC30_J2 at hm
            refine region (endP T hS (sp := []) (ks := [0, 1, 2, 8, 9]) (bs := []) (sy' := ⟨[(0, I ops), (1, I states), (2, V (.slice a1 row.length c1)), (8, V (.slice a123 m_122.length c124)), (9, I (IntKind.i64.wrap (a_120 + 1)))], []⟩) (by kernel_rfl) ?_)
            intro a hS
            exact ⟨⟨m_122, IntKind.i64.wrap (a_120 + 1)⟩, ⟨ρ, _, a123, c124, hm.1, hS.sel [0, 1, 2, 8, 9] [] (by kernel_rfl), hO, h121, h125⟩, hm.2⟩
        · replace hm := hm.2 hb
          refine wexit (by rfl) ?_
          exact ⟨ρ, _, m_116, a117, c118, hm, hS.sel [8] [] (by kernel_rfl), hO, h119⟩
    · rintro a w165 ⟨ρ, χ164, m_109, a110, c111, hm, hS, hO, h112⟩
      unfold VC30_J1 at hm
      refine regP T hS (sp := []) (ks := [6, 7]) (bs := []) (sy' := ⟨[(6, V (.slice a110 m_109.length c111)), (7, B true)], []⟩) (by kernel_rfl) ?_
      intro a hS
      refine wret ?_
      obtain ⟨χ113, hE, hF⟩ := h112.freeze (by decide)
      replace hS := hS.ev hE (xone_box (by kernel_rfl))
      replace hO := hO.mv hE rfl rfl
      have h114 := hF; clear hE hF
      exact fin T hS hO (fun c => c) rfl (r := [.slice a110 m_109.length c111, .bool true]) (by kernel_rfl) (fun χ' hM hC => ⟨(m_109, true), hm, a110, c111, rfl, h114.m0 hM⟩)
theorem C30 (k22 : S22) (v : ∀ (ops : Int) (states : Int) (row : List Int), VC30 ops states row (fun r => r = ref34_Truths ops states row)) : S30 := by
  intro w χ ops states row a1 c1   h1
  refine (W30 k22 w χ ops states row a1 c1   _ (v ops states row) h1).mono ?_
  rintro _ _ _ _ ⟨r, rfl, h⟩
  exact h
def S34 : Prop := ∀ (w : World) (χ : Nat → Nat) (a_ : List Int) (b_ : List Int) (a1 : Option Addr) (c1 : Nat) (a2 : Option Addr) (c2 : Nat), RS tI w χ a1 a_ c1 → RS tI w χ a2 b_ c2 → Ret Try.prog 34 #[.slice a1 a_.length c1, .slice a2 b_.length c2] xnone w χ (fun w χ' v => v = .bool (ref01_SameInts a_ b_))
theorem hb34 : hasBody Try.prog 34 = true := by kernel_rfl
/-- replevin/replevinref01.SameInts -/
theorem W34 (w0 : World) (χ0 : Nat → Nat) (a_ : List Int) (b_ : List Int) (a1 : Option Addr) (c1 : Nat) (a2 : Option Addr) (c2 : Nat) (Q : Bool → Prop) (hm : VC34 a_ b_ Q) (h1 : RS tI w0 χ0 a1 a_ c1) (h2 : RS tI w0 χ0 a2 b_ c2) :
    Ret Try.prog 34 #[.slice a1 a_.length c1, .slice a2 b_.length c2] xnone w0 χ0 (fun w χ' v => ∃ r, Q r ∧ v = .bool r) := by
  unfold VC34 at hm
  replace hm := hm (h1.sm (by kernel_rfl))
  replace hm := hm (h2.sm (by kernel_rfl))
  refine enter Try.func34 rfl (vals := [.slice a1 a_.length c1, .slice a2 b_.length c2]) (by kernel_rfl) ?_
  intro ρ a hS hO hM
  replace h1 := h1.m0 hM
  replace h2 := h2.m0 hM
  clear hM
  refine regP T hS (sp := []) (ks := [0, 1]) (bs := []) (sy' := ⟨[(0, V (.slice a1 a_.length c1)), (1, V (.slice a2 b_.length c2))], []⟩) (by kernel_rfl) ?_
  intro a hS
  refine wseq ?_
  refine regP T hS (sp := []) (ks := [0, 1, 10]) (bs := []) (sy' := ⟨[(0, V (.slice a1 a_.length c1)), (1, V (.slice a2 b_.length c2)), (10, B (((a_.length : Nat) : Int) != ((b_.length : Nat) : Int)))], []⟩) (by kernel_rfl) ?_
  intro a hS
  refine wcond hS (b := (((a_.length : Nat) : Int) != ((b_.length : Nat) : Int))) (by kernel_rfl) (fun hb => ?_) (fun hb => ?_)
  · replace hm := hm.1 hb
    refine regP T hS (sp := []) (ks := [4]) (bs := []) (sy' := ⟨[(4, B false)], []⟩) (by kernel_rfl) ?_
    intro a hS
    refine wret ?_
    exact fin T hS hO (fun c => c) rfl (r := [.bool false]) (by kernel_rfl) (fun χ' hM hC => ⟨false, hm, rfl⟩)
  · replace hm := hm.2 hb
    refine wskip ?_
    refine wcut (fun a w => ∃ (ρ : Nat → Nat) (χ : Nat → Nat), VC34_J1 Q ∧ St Try.f34.ntmps ⟨[], []⟩ ρ a w χ ∧ Old w0 χ0 w χ) ?_ ?_
    · refine regP T hS (sp := []) (ks := [0, 1, 5]) (bs := []) (sy' := ⟨[(0, V (.slice a1 a_.length c1)), (1, V (.slice a2 b_.length c2)), (5, I 0)], []⟩) (by kernel_rfl) ?_
      intro a hS
      refine wblock ?_
      obtain ⟨I1, μ1, hm0, hm⟩ := hm
      refine wloop (σ := Int) (fun s a w => ∃ (ρ : Nat → Nat) (χ : Nat → Nat), I1 s ∧ St Try.f34.ntmps ⟨[(0, V (.slice a1 a_.length c1)), (1, V (.slice a2 b_.length c2)), (5, I s)], []⟩ ρ a w χ ∧ Old w0 χ0 w χ ∧ RS tI w χ a1 a_ c1 ∧ RS tI w χ a2 b_ c2) (fun s => μ1 s) (0) ?_ ?_
      · exact ⟨ρ, _, hm0, hS.sel [0, 1, 5] [] (by kernel_rfl), hO, h1, h2⟩
      · rintro i_103 a w112 ⟨ρ, χ111, hI, hS, hO, h101, h102⟩
        replace hm := hm i_103 hI
        clear hI hm0
        refine wseq ?_
        refine regP T hS (sp := []) (ks := [0, 1, 5, 14]) (bs := []) (sy' := ⟨[(0, V (.slice a1 a_.length c1)), (1, V (.slice a2 b_.length c2)), (5, I i_103), (14, B (decide (i_103 < ((a_.length : Nat) : Int))))], []⟩) (by kernel_rfl) ?_
        intro a hS
        refine wcond hS (b := decide (i_103 < ((a_.length : Nat) : Int))) (by kernel_rfl) (fun hb => ?_) (fun hb => ?_)
        · replace hm := hm.1 hb
          refine wskip ?_
          refine wseq ?_
          refine wblock ?_
          refine drawnS [] mixed hS ?_
          intro w104 hS hE hD hH
          replace hO := hO.mv hE rfl rfl
          replace h101 := h101.mv hE rfl
          replace h102 := h102.mv hE rfl
          clear hE
          refine take T [0, 1, 4, 5] [] [0, 1, 5, 17, 18, 21, 22] hS (by kernel_rfl) (by kernel_rfl) (by kernel_rfl) hH (listed' := #[true, true, false, false, true, true, false, false, false]) (fuel := 5) (sy' := ⟨[(0, V (.slice a1 a_.length c1)), (1, V (.slice a2 b_.length c2)), (5, I i_103), (17, V (.slice a1 a_.length c1)), (18, I i_103), (21, V (.slice a2 b_.length c2)), (22, I i_103)], []⟩) (by kernel_rfl) (by rfl) ?_
          intro a hS
          obtain ⟨hq, hm⟩ := hm
          refine dindex (e := 3) (k := .i64) T 2 hS (by kernel_rfl) (by kernel_rfl) (by kernel_rfl) (by rfl) (by kernel_rfl) hH (by kernel_rfl) (by kernel_rfl) h101 (by kernel_rfl) (by kernel_rfl) hq.1 hq.2 ?_
          intro A105 a h106 hS
          clear hq
          have h106b := h106.here
          refine dload1 T 3 hS (by kernel_rfl) (by kernel_rfl) (by kernel_rfl) (by rfl) (by kernel_rfl) hH (by kernel_rfl) h106 h106b rfl (by kernel_rfl) ?_
          intro v107 a hv hS
          cases hv
          obtain ⟨hq, hm⟩ := hm
          refine dindex (e := 3) (k := .i64) T 6 hS (by kernel_rfl) (by kernel_rfl) (by kernel_rfl) (by rfl) (by kernel_rfl) hH (by kernel_rfl) (by kernel_rfl) h102 (by kernel_rfl) (by kernel_rfl) hq.1 hq.2 ?_
          intro A108 a h109 hS
          clear hq
          have h109b := h109.here
          refine dload1 T 7 hS (by kernel_rfl) (by kernel_rfl) (by kernel_rfl) (by rfl) (by kernel_rfl) hH (by kernel_rfl) h109 h109b rfl (by kernel_rfl) ?_
          intro v110 a hv hS
          cases hv
          refine take T [8] [] [0, 1, 5, 25] hS (by kernel_rfl) (by kernel_rfl) (by kernel_rfl) hH (listed' := #[true, true, true, true, true, true, true, true, true]) (fuel := 0) (sy' := ⟨[(0, V (.slice a1 a_.length c1)), (1, V (.slice a2 b_.length c2)), (5, I i_103), (25, B ((gi a_ i_103) != (gi b_ i_103)))], []⟩) (by kernel_rfl) (by rfl) ?_
          intro a hS
          refine drawnDone (by kernel_rfl) ?_
          clear hD hH
          replace hS := hS.sel [0, 1, 5, 25] [] (sy' := ⟨[(0, V (.slice a1 a_.length c1)), (1, V (.slice a2 b_.length c2)), (5, I i_103), (25, B ((gi a_ i_103) != (gi b_ i_103)))], []⟩) (by kernel_rfl)
          refine wcond hS (b := ((gi a_ i_103) != (gi b_ i_103))) (by kernel_rfl) (fun hb => ?_) (fun hb => ?_)
          · replace hm := hm.1 hb
            refine regP T hS (sp := []) (ks := [4]) (bs := []) (sy' := ⟨[(4, B false)], []⟩) (by kernel_rfl) ?_
            intro a hS
            refine wret ?_
            exact fin T hS hO (fun c => c) rfl (r := [.bool false]) (by kernel_rfl) (fun χ' hM hC => ⟨false, hm, rfl⟩)
          · replace hm := hm.2 hb
            refine wskip ?_
            refine region (endP T hS (sp := []) (ks := [0, 1, 5]) (bs := []) (sy' := ⟨[(0, V (.slice a1 a_.length c1)), (1, V (.slice a2 b_.length c2)), (5, I (IntKind.i64.wrap (i_103 + 1)))], []⟩) (by kernel_rfl) ?_)
            intro a hS
            exact ⟨IntKind.i64.wrap (i_103 + 1), ⟨ρ, _, hm.1, hS.sel [0, 1, 5] [] (by kernel_rfl), hO, h101, h102⟩, hm.2⟩
        · replace hm := hm.2 hb
          refine wexit (by rfl) ?_
          exact ⟨ρ, _, hm, hS.sel [] [] (by kernel_rfl), hO⟩
    · rintro a w114 ⟨ρ, χ113, hm, hS, hO⟩
      unfold VC34_J1 at hm
      refine regP T hS (sp := []) (ks := [4]) (bs := []) (sy' := ⟨[(4, B true)], []⟩) (by kernel_rfl) ?_
      intro a hS
      refine wret ?_
      exact fin T hS hO (fun c => c) rfl (r := [.bool true]) (by kernel_rfl) (fun χ' hM hC => ⟨true, hm, rfl⟩)
theorem C34 (v : ∀ (a_ : List Int) (b_ : List Int), VC34 a_ b_ (fun r => r = ref01_SameInts a_ b_)) : S34 := by
  intro w χ a_ b_ a1 c1 a2 c2   h1 h2
  refine (W34 w χ a_ b_ a1 c1 a2 c2   _ (v a_ b_) h1 h2).mono ?_
  rintro _ _ _ _ ⟨r, rfl, h⟩
  exact h
def S31 : Prop := ∀ (w : World) (χ : Nat → Nat) (a_ : List (List Int)) (b_ : List (List Int)) (a1 : Option Addr) (c1 : Nat) (a2 : Option Addr) (c2 : Nat), RS (tSlice tI) w χ a1 a_ c1 → RS (tSlice tI) w χ a2 b_ c2 → Ret Try.prog 31 #[.slice a1 a_.length c1, .slice a2 b_.length c2] xnone w χ (fun w χ' v => v = .bool (ref04_SameRows a_ b_))
theorem hb31 : hasBody Try.prog 31 = true := by kernel_rfl
/-- replevin/replevinref04.SameRows -/
theorem W31 (k34 : S34) (w0 : World) (χ0 : Nat → Nat) (a_ : List (List Int)) (b_ : List (List Int)) (a1 : Option Addr) (c1 : Nat) (a2 : Option Addr) (c2 : Nat) (Q : Bool → Prop) (hm : VC31 a_ b_ Q) (h1 : RS (tSlice tI) w0 χ0 a1 a_ c1) (h2 : RS (tSlice tI) w0 χ0 a2 b_ c2) :
    Ret Try.prog 31 #[.slice a1 a_.length c1, .slice a2 b_.length c2] xnone w0 χ0 (fun w χ' v => ∃ r, Q r ∧ v = .bool r) := by
  unfold VC31 at hm
  replace hm := hm (h1.sm (by kernel_rfl))
  replace hm := hm (h2.sm (by kernel_rfl))
  refine enter Try.func31 rfl (vals := [.slice a1 a_.length c1, .slice a2 b_.length c2]) (by kernel_rfl) ?_
  intro ρ a hS hO hM
  replace h1 := h1.m0 hM
  replace h2 := h2.m0 hM
  clear hM
  refine regP T hS (sp := []) (ks := [0, 1]) (bs := []) (sy' := ⟨[(0, V (.slice a1 a_.length c1)), (1, V (.slice a2 b_.length c2))], []⟩) (by kernel_rfl) ?_
  intro a hS
  refine wseq ?_
  refine regP T hS (sp := []) (ks := [0, 1, 10]) (bs := []) (sy' := ⟨[(0, V (.slice a1 a_.length c1)), (1, V (.slice a2 b_.length c2)), (10, B (((a_.length : Nat) : Int) != ((b_.length : Nat) : Int)))], []⟩) (by kernel_rfl) ?_
  intro a hS
  refine wcond hS (b := (((a_.length : Nat) : Int) != ((b_.length : Nat) : Int))) (by kernel_rfl) (fun hb => ?_) (fun hb => ?_)
  · replace hm := hm.1 hb
    refine regP T hS (sp := []) (ks := [4]) (bs := []) (sy' := ⟨[(4, B false)], []⟩) (by kernel_rfl) ?_
    intro a hS
    refine wret ?_
    exact fin T hS hO (fun c => c) rfl (r := [.bool false]) (by kernel_rfl) (fun χ' hM hC => ⟨false, hm, rfl⟩)
  · replace hm := hm.2 hb
    refine wskip ?_
    refine wcut (fun a w => ∃ (ρ : Nat → Nat) (χ : Nat → Nat), VC31_J1 Q ∧ St Try.f31.ntmps ⟨[], []⟩ ρ a w χ ∧ Old w0 χ0 w χ) ?_ ?_
    · refine regP T hS (sp := []) (ks := [0, 1, 5]) (bs := []) (sy' := ⟨[(0, V (.slice a1 a_.length c1)), (1, V (.slice a2 b_.length c2)), (5, I 0)], []⟩) (by kernel_rfl) ?_
      intro a hS
      refine wblock ?_
      obtain ⟨I1, μ1, hm0, hm⟩ := hm
      refine wloop (σ := Int) (fun s a w => ∃ (ρ : Nat → Nat) (χ : Nat → Nat), I1 s ∧ St Try.f31.ntmps ⟨[(0, V (.slice a1 a_.length c1)), (1, V (.slice a2 b_.length c2)), (5, I s)], []⟩ ρ a w χ ∧ Old w0 χ0 w χ ∧ RS (tSlice tI) w χ a1 a_ c1 ∧ RS (tSlice tI) w χ a2 b_ c2) (fun s => μ1 s) (0) ?_ ?_
      · exact ⟨ρ, _, hm0, hS.sel [0, 1, 5] [] (by kernel_rfl), hO, h1, h2⟩
      · rintro i_103 a w122 ⟨ρ, χ121, hI, hS, hO, h101, h102⟩
        replace hm := hm i_103 hI
        clear hI hm0
        refine wseq ?_
        refine regP T hS (sp := []) (ks := [0, 1, 5, 14]) (bs := []) (sy' := ⟨[(0, V (.slice a1 a_.length c1)), (1, V (.slice a2 b_.length c2)), (5, I i_103), (14, B (decide (i_103 < ((a_.length : Nat) : Int))))], []⟩) (by kernel_rfl) ?_
        intro a hS
        refine wcond hS (b := decide (i_103 < ((a_.length : Nat) : Int))) (by kernel_rfl) (fun hb => ?_) (fun hb => ?_)
        · replace hm := hm.1 hb
          refine wskip ?_
          refine wseq ?_
          refine wblock ?_
          refine drawnS [] mixed hS ?_
          intro w104 hS hE hD hH
          replace hO := hO.mv hE rfl rfl
          replace h101 := h101.mv hE rfl
          replace h102 := h102.mv hE rfl
          clear hE
          refine take T [0, 1, 4, 5] [] [0, 1, 5, 17, 18, 21, 22] hS (by kernel_rfl) (by kernel_rfl) (by kernel_rfl) hH (listed' := #[true, true, false, false, true, true, false, false, false, false]) (fuel := 6) (sy' := ⟨[(0, V (.slice a1 a_.length c1)), (1, V (.slice a2 b_.length c2)), (5, I i_103), (17, V (.slice a1 a_.length c1)), (18, I i_103), (21, V (.slice a2 b_.length c2)), (22, I i_103)], []⟩) (by kernel_rfl) (by rfl) ?_
          intro a hS
          obtain ⟨hq, hm⟩ := hm
          refine dindex (e := 42) (k := .i64) T 2 hS (by kernel_rfl) (by kernel_rfl) (by kernel_rfl) (by rfl) (by kernel_rfl) hH (by kernel_rfl) (by kernel_rfl) h101 (by kernel_rfl) (by kernel_rfl) hq.1 hq.2 ?_
          intro A105 a h106 hS
          clear hq
          have h106b := h106.here
          refine dload1 T 3 hS (by kernel_rfl) (by kernel_rfl) (by kernel_rfl) (by rfl) (by kernel_rfl) hH (by kernel_rfl) h106 h106b rfl (by kernel_rfl) ?_
          intro v107 a hv hS
          obtain ⟨a108, c109, hv, h110⟩ := hv
          cases hv
          replace hm := hm (h110.sm (by kernel_rfl))
          obtain ⟨hq, hm⟩ := hm
          refine dindex (e := 42) (k := .i64) T 6 hS (by kernel_rfl) (by kernel_rfl) (by kernel_rfl) (by rfl) (by kernel_rfl) hH (by kernel_rfl) (by kernel_rfl) h102 (by kernel_rfl) (by kernel_rfl) hq.1 hq.2 ?_
          intro A111 a h112 hS
          clear hq
          have h112b := h112.here
          refine dload1 T 7 hS (by kernel_rfl) (by kernel_rfl) (by kernel_rfl) (by rfl) (by kernel_rfl) hH (by kernel_rfl) h112 h112b rfl (by kernel_rfl) ?_
          intro v113 a hv hS
          obtain ⟨a114, c115, hv, h116⟩ := hv
          cases hv
          replace hm := hm (h116.sm (by kernel_rfl))
          refine only 8 (by kernel_rfl) (by rfl) (call hS (by kernel_rfl) (by kernel_rfl) hb34 (by kernel_rfl) (fun _ _ => rfl) (k34 _ _ (gi a_ i_103) (gi b_ i_103) a108 c109 a114 c115 h110 h116) ?_)
          intro v117 a w118 χ119 hE hp hS
          replace hO := hO.mv hE rfl rfl
          replace hD := hD.ev hE rfl
          replace h101 := h101.mv hE rfl
          replace h102 := h102.mv hE rfl
          replace h106 := h106.mv hE rfl
          replace h110 := h110.mv hE rfl
          replace h112 := h112.mv hE rfl
          replace h116 := h116.mv hE rfl
          clear hE
          obtain ⟨r120, hr⟩ : ∃ r, ref01_SameInts (gi a_ i_103) (gi b_ i_103) = r := ⟨_, rfl⟩
          replace hm := hm r120 hr
          rw [hr] at hp
          clear hr
          subst hp
          refine andH (Hold.of hS (bks := []) (by kernel_rfl) hD) ?_
          intro hH
          refine take T [9] [] [0, 1, 5, 26] hS (by kernel_rfl) (by kernel_rfl) (by kernel_rfl) hH (listed' := #[true, true, true, true, true, true, true, true, true, true]) (fuel := 0) (sy' := ⟨[(0, V (.slice a1 a_.length c1)), (1, V (.slice a2 b_.length c2)), (5, I i_103), (26, B (!r120))], []⟩) (by kernel_rfl) (by rfl) ?_
          intro a hS
          refine drawnDone (by kernel_rfl) ?_
          clear hD hH
          replace hS := hS.sel [0, 1, 5, 26] [] (sy' := ⟨[(0, V (.slice a1 a_.length c1)), (1, V (.slice a2 b_.length c2)), (5, I i_103), (26, B (!r120))], []⟩) (by kernel_rfl)
          refine wcond hS (b := (!r120)) (by kernel_rfl) (fun hb => ?_) (fun hb => ?_)
          · replace hm := hm.1 hb
            refine regP T hS (sp := []) (ks := [4]) (bs := []) (sy' := ⟨[(4, B false)], []⟩) (by kernel_rfl) ?_
            intro a hS
            refine wret ?_
            exact fin T hS hO (fun c => c) rfl (r := [.bool false]) (by kernel_rfl) (fun χ' hM hC => ⟨false, hm, rfl⟩)
          · replace hm := hm.2 hb
            refine wskip ?_
            refine region (endP T hS (sp := []) (ks := [0, 1, 5]) (bs := []) (sy' := ⟨[(0, V (.slice a1 a_.length c1)), (1, V (.slice a2 b_.length c2)), (5, I (IntKind.i64.wrap (i_103 + 1)))], []⟩) (by kernel_rfl) ?_)
            intro a hS
            exact ⟨IntKind.i64.wrap (i_103 + 1), ⟨ρ, _, hm.1, hS.sel [0, 1, 5] [] (by kernel_rfl), hO, h101, h102⟩, hm.2⟩
        · replace hm := hm.2 hb
          refine wexit (by rfl) ?_
          exact ⟨ρ, _, hm, hS.sel [] [] (by kernel_rfl), hO⟩
    · rintro a w124 ⟨ρ, χ123, hm, hS, hO⟩
      unfold VC31_J1 at hm
      refine regP T hS (sp := []) (ks := [4]) (bs := []) (sy' := ⟨[(4, B true)], []⟩) (by kernel_rfl) ?_
      intro a hS
      refine wret ?_
      exact fin T hS hO (fun c => c) rfl (r := [.bool true]) (by kernel_rfl) (fun χ' hM hC => ⟨true, hm, rfl⟩)
theorem C31 (k34 : S34) (v : ∀ (a_ : List (List Int)) (b_ : List (List Int)), VC31 a_ b_ (fun r => r = ref04_SameRows a_ b_)) : S31 := by
  intro w χ a_ b_ a1 c1 a2 c2   h1 h2
  refine (W31 k34 w χ a_ b_ a1 c1 a2 c2   _ (v a_ b_) h1 h2).mono ?_
  rintro _ _ _ _ ⟨r, rfl, h⟩
  exact h
def S50 : Prop := ∀ (w : World) (χ : Nat → Nat) (l_ : List Int) (a1 : Option Addr) (c1 : Nat), preMost l_ → RS tI w χ a1 l_ c1 → Ret Try.prog 50 #[.slice a1 l_.length c1] xnone w χ (fun w χ' v => ∃ (ra1 : Option Addr) (rc1 : Nat), v = .slice ra1 (ref32_Most l_).length rc1 ∧ RS (tSlice tI) w χ' ra1 (ref32_Most l_) rc1)
theorem hb50 : hasBody Try.prog 50 = true := by kernel_rfl
/-- replevin/replevinref32.Most -/
theorem W50 (w0 : World) (χ0 : Nat → Nat) (l_ : List Int) (a1 : Option Addr) (c1 : Nat) (Q : (List (List Int)) → Prop) (hm : VC50 l_ Q) (h1 : RS tI w0 χ0 a1 l_ c1) :
    Ret Try.prog 50 #[.slice a1 l_.length c1] xnone w0 χ0 (fun w χ' v => ∃ r, Q r ∧ ∃ (ra1 : Option Addr) (rc1 : Nat), v = .slice ra1 r.length rc1 ∧ RS (tSlice tI) w χ' ra1 r rc1) := by
  unfold VC50 at hm
  replace hm := hm (h1.sm (by kernel_rfl))
  refine enter Try.func50 rfl (vals := [.slice a1 l_.length c1]) (by kernel_rfl) ?_
  intro ρ a hS hO hM
  replace h1 := h1.m0 hM
  clear hM
  refine regP T hS (sp := []) (ks := [0]) (bs := []) (sy' := ⟨[(0, V (.slice a1 l_.length c1))], []⟩) (by kernel_rfl) ?_
  intro a hS
  refine regP T hS (sp := []) (ks := [0, 3]) (bs := []) (sy' := ⟨[(0, V (.slice a1 l_.length c1)), (3, V (.slice none 0 0))], []⟩) (by kernel_rfl) ?_
  intro a hS
  refine wcut (fun a w => ∃ (ρ : Nat → Nat) (χ : Nat → Nat) (out_101 : List (List Int)) (a102 : Option Addr) (c103 : Nat), VC50_J1 Q out_101 ∧ St Try.f50.ntmps ⟨[(3, V (.slice a102 out_101.length c103))], []⟩ ρ a w χ ∧ Old w0 χ0 w χ ∧ OS (tSlice tI) 42 w χ 1003 a102 out_101 c103) ?_ ?_
  · refine regP T hS (sp := []) (ks := [0, 3, 4]) (bs := []) (sy' := ⟨[(0, V (.slice a1 l_.length c1)), (3, V (.slice none 0 0)), (4, I 0)], []⟩) (by kernel_rfl) ?_
    intro a hS
    refine wblock ?_
    obtain ⟨I1, μ1, hm0, hm⟩ := hm
    refine wloop (σ := (List (List Int)) × Int) (fun s a w => ∃ (ρ : Nat → Nat) (χ : Nat → Nat) (a109 : Option Addr) (c110 : Nat), I1 s.1 s.2 ∧ St Try.f50.ntmps ⟨[(0, V (.slice a1 l_.length c1)), (3, V (.slice a109 s.1.length c110)), (4, I s.2)], []⟩ ρ a w χ ∧ Old w0 χ0 w χ ∧ RS tI w χ a1 l_ c1 ∧ OS (tSlice tI) 42 w χ 1003 a109 s.1 c110) (fun s => μ1 s.1 s.2) (⟨[], 0⟩) ?_ ?_
    · exact ⟨ρ, _, none, 0, hm0, hS.sel [0, 3, 4] [] (by kernel_rfl), hO, h1, (OS.nil _ _ _ _ _)⟩
    · rintro ⟨out_108, i_112⟩ a w149 ⟨ρ, χ148, a109, c110, hI, hS, hO, h107, h111⟩
      replace hm := hm out_108 i_112 hI
      clear hI hm0
      refine wseq ?_
      refine regP T hS (sp := []) (ks := [0, 3, 4, 9]) (bs := []) (sy' := ⟨[(0, V (.slice a1 l_.length c1)), (3, V (.slice a109 out_108.length c110)), (4, I i_112), (9, B (decide (i_112 < ((l_.length : Nat) : Int))))], []⟩) (by kernel_rfl) ?_
      intro a hS
      refine wcond hS (b := decide (i_112 < ((l_.length : Nat) : Int))) (by kernel_rfl) (fun hb => ?_) (fun hb => ?_)
      · replace hm := hm.1 hb
        refine wskip ?_
        refine wcut (fun a w => ∃ (ρ : Nat → Nat) (χ : Nat → Nat) (out_114 : List (List Int)) (a115 : Option Addr) (c116 : Nat), VC50_J2 I1 μ1 out_108 i_112 out_114 ∧ St Try.f50.ntmps ⟨[(0, V (.slice a1 l_.length c1)), (3, V (.slice a115 out_114.length c116)), (4, I i_112)], []⟩ ρ a w χ ∧ Old w0 χ0 w χ ∧ RS tI w χ a1 l_ c1 ∧ OS (tSlice tI) 42 w χ 1003 a115 out_114 c116) ?_ ?_
        · refine wblock ?_
          refine regP T hS (sp := []) (ks := [0, 3, 4, 5]) (bs := []) (sy' := ⟨[(0, V (.slice a1 l_.length c1)), (3, V (.slice a109 out_108.length c110)), (4, I i_112), (5, I (IntKind.i64.wrap (i_112 + 1)))], []⟩) (by kernel_rfl) ?_
          intro a hS
          refine wblock ?_
          obtain ⟨I2, μ2, hm0, hm⟩ := hm
          refine wloop (σ := (List (List Int)) × Int) (fun s a w => ∃ (ρ : Nat → Nat) (χ : Nat → Nat) (a120 : Option Addr) (c121 : Nat), I2 s.1 s.2 ∧ St Try.f50.ntmps ⟨[(0, V (.slice a1 l_.length c1)), (3, V (.slice a120 s.1.length c121)), (4, I i_112), (5, I s.2)], []⟩ ρ a w χ ∧ Old w0 χ0 w χ ∧ RS tI w χ a1 l_ c1 ∧ OS (tSlice tI) 42 w χ 1003 a120 s.1 c121) (fun s => μ2 s.1 s.2) (⟨out_108, IntKind.i64.wrap (i_112 + 1)⟩) ?_ ?_
          · exact ⟨ρ, _, a109, c110, hm0, hS.sel [0, 3, 4, 5] [] (by kernel_rfl), hO, h107, h111⟩
          · rintro ⟨out_119, k_123⟩ a w145 ⟨ρ, χ144, a120, c121, hI, hS, hO, h118, h122⟩
            replace hm := hm out_119 k_123 hI
            clear hI hm0
            refine wseq ?_
            refine regP T hS (sp := []) (ks := [0, 3, 4, 5, 17]) (bs := []) (sy' := ⟨[(0, V (.slice a1 l_.length c1)), (3, V (.slice a120 out_119.length c121)), (4, I i_112), (5, I k_123), (17, B (decide (k_123 < ((l_.length : Nat) : Int))))], []⟩) (by kernel_rfl) ?_
            intro a hS
            refine wcond hS (b := decide (k_123 < ((l_.length : Nat) : Int))) (by kernel_rfl) (fun hb => ?_) (fun hb => ?_)
            · replace hm := hm.1 hb
              refine wskip ?_
              refine wseq ?_
              refine wblock ?_
              refine drawn [] mixed hS ?_
              intro w124 hS hE hD hH
              replace hO := hO.mv hE rfl rfl
              replace h118 := h118.mv hE rfl
              replace h122 := h122.mv hE rfl rfl
              clear hE
              refine take T [0, 1, 2, 6, 7] [] [0, 3, 4, 5, 20, 21, 22, 26, 27] hS (by kernel_rfl) (by kernel_rfl) (by kernel_rfl) hH (listed' := #[true, true, true, false, false, false, true, true, false, false, false, false, false, false, false]) (fuel := 10) (sy' := ⟨[(0, V (.slice a1 l_.length c1)), (3, V (.slice a120 out_119.length c121)), (4, I i_112), (5, I k_123), (20, V (.slice a120 out_119.length c121)), (21, V (.slice a1 l_.length c1)), (22, I i_112), (26, V (.slice a1 l_.length c1)), (27, I k_123)], []⟩) (by kernel_rfl) (by rfl) ?_
              intro a hS
              obtain ⟨hq, hm⟩ := hm
              refine dindex (e := 3) (k := .i64) T 3 hS (by kernel_rfl) (by kernel_rfl) (by kernel_rfl) (by rfl) (by kernel_rfl) hH (by kernel_rfl) (by kernel_rfl) h118 (by kernel_rfl) (by kernel_rfl) hq.1 hq.2 ?_
              intro A125 a h126 hS
              clear hq
              have h126b := h126.here
              refine dload1 T 4 hS (by kernel_rfl) (by kernel_rfl) (by kernel_rfl) (by rfl) (by kernel_rfl) hH (by kernel_rfl) h126 h126b rfl (by kernel_rfl) ?_
              intro v127 a hv hS
              cases hv
              refine take T [5] [] [0, 3, 4, 5, 20, 25, 26, 27] hS (by kernel_rfl) (by kernel_rfl) (by kernel_rfl) hH (listed' := #[true, true, true, true, true, true, true, true, false, false, false, false, false, false, false]) (fuel := 7) (sy' := ⟨[(0, V (.slice a1 l_.length c1)), (3, V (.slice a120 out_119.length c121)), (4, I i_112), (5, I k_123), (20, V (.slice a120 out_119.length c121)), (25, I (IntKind.i64.wrap (0 - (gi l_ i_112)))), (26, V (.slice a1 l_.length c1)), (27, I k_123)], []⟩) (by kernel_rfl) (by rfl) ?_
              intro a hS
              obtain ⟨hq, hm⟩ := hm
              refine dindex (e := 3) (k := .i64) T 8 hS (by kernel_rfl) (by kernel_rfl) (by kernel_rfl) (by rfl) (by kernel_rfl) hH (by kernel_rfl) (by kernel_rfl) h118 (by kernel_rfl) (by kernel_rfl) hq.1 hq.2 ?_
              intro A128 a h129 hS
              clear hq
              have h129b := h129.here
              refine dload1 T 9 hS (by kernel_rfl) (by kernel_rfl) (by kernel_rfl) (by rfl) (by kernel_rfl) hH (by kernel_rfl) h129 h129b rfl (by kernel_rfl) ?_
              intro v130 a hv hS
              cases hv
              refine take T [10] [] [0, 3, 4, 5, 20, 25, 30] hS (by kernel_rfl) (by kernel_rfl) (by kernel_rfl) hH (listed' := #[true, true, true, true, true, true, true, true, true, true, true, false, false, false, false]) (fuel := 4) (sy' := ⟨[(0, V (.slice a1 l_.length c1)), (3, V (.slice a120 out_119.length c121)), (4, I i_112), (5, I k_123), (20, V (.slice a120 out_119.length c121)), (25, I (IntKind.i64.wrap (0 - (gi l_ i_112)))), (30, I (IntKind.i64.wrap (0 - (gi l_ k_123))))], []⟩) (by kernel_rfl) (by rfl) ?_
              intro a hS
              refine only 11 (by kernel_rfl) (by rfl) (lit (E := 3) (col := 0) (T := tI) (vals := [.int .i64 (IntKind.i64.wrap (0 - (gi l_ i_112))), .int .i64 (IntKind.i64.wrap (0 - (gi l_ k_123)))]) (ys := [IntKind.i64.wrap (0 - (gi l_ i_112)), IntKind.i64.wrap (0 - (gi l_ k_123))]) T hS (by kernel_rfl) (by kernel_rfl) (by kernel_rfl) (by kernel_rfl) (by exact ⟨rfl, rfl, trivial⟩) rfl (by kernel_rfl) (by kernel_rfl) (by kernel_rfl) (by kernel_rfl) ?_)
              intro b131 a w132 χ133 hE h134 hN hS
              clear hN
              replace hO := hO.mv hE rfl rfl
              replace hD := hD.ev hE rfl
              replace h118 := h118.mv hE rfl
              replace h122 := h122.mv hE rfl rfl
              replace h126 := h126.mv hE rfl
              replace h129 := h129.mv hE rfl
              clear hE
              replace h134 := h134.rs0
              refine andH (Hold.of hS (bks := []) (by kernel_rfl) hD) ?_
              intro hH
              refine only 12 (by kernel_rfl) (by rfl) (lit (E := 42) (col := 0) (T := (tSlice tI)) (vals := [.slice (some ⟨b131, 0, none⟩) [IntKind.i64.wrap (0 - (gi l_ i_112)), IntKind.i64.wrap (0 - (gi l_ k_123))].length 2]) (ys := [[IntKind.i64.wrap (0 - (gi l_ i_112)), IntKind.i64.wrap (0 - (gi l_ k_123))]]) T hS (by kernel_rfl) (by kernel_rfl) (by kernel_rfl) (by kernel_rfl) (by exact ⟨⟨(some ⟨b131, 0, none⟩), 2, rfl, h134⟩, trivial⟩) rfl (by kernel_rfl) (by kernel_rfl) (by kernel_rfl) (by kernel_rfl) ?_)
              intro b135 a w136 χ137 hE h138 hN hS
              clear hN
              replace hO := hO.mv hE rfl rfl
              replace hD := hD.ev hE rfl
              replace h118 := h118.mv hE rfl
              replace h122 := h122.mv hE rfl rfl
              replace h126 := h126.mv hE rfl
              replace h129 := h129.mv hE rfl
              replace h134 := h134.mv hE rfl
              clear hE
              replace h138 := h138.rs0
              refine andH (Hold.of hS (bks := []) (by kernel_rfl) hD) ?_
              intro hH
              obtain ⟨hq, hm⟩ := hm
              obtain ⟨news, hN⟩ := h138.src
              refine only 13 (by kernel_rfl) (by rfl) (append (E := 42) (T := (tSlice tI)) (col := 1003) (xs := out_119) T hS (by kernel_rfl) (by kernel_rfl) (by kernel_rfl) (by kernel_rfl) h122 hN (by kernel_rfl) (by kernel_rfl) (by kernel_rfl) (by kernel_rfl) hq ?_)
              intro a142 c143 a w139 χ140 hE h141 hS
              clear hq hN
              clear h122
              replace hO := hO.mv hE rfl rfl
              replace hD := hD.ev hE rfl
              replace h118 := h118.mv hE rfl
              replace h126 := h126.mv hE rfl
              replace h129 := h129.mv hE rfl
              replace h134 := h134.mv hE rfl
              replace h138 := h138.mv hE rfl
              clear hE
              refine andH (Hold.of hS (bks := []) (by kernel_rfl) hD) ?_
              intro hH
              refine take T [14] [] [0, 3, 4, 5] hS (by kernel_rfl) (by kernel_rfl) (by kernel_rfl) hH (listed' := #[true, true, true, true, true, true, true, true, true, true, true, true, true, true, true]) (fuel := 0) (sy' := ⟨[(0, V (.slice a1 l_.length c1)), (3, V (.slice a142 (out_119 ++ [[IntKind.i64.wrap (0 - (gi l_ i_112)), IntKind.i64.wrap (0 - (gi l_ k_123))]]).length c143)), (4, I i_112), (5, I k_123)], []⟩) (by kernel_rfl) (by rfl) ?_
              intro a hS
              refine drawnDone (by kernel_rfl) ?_
              clear hD hH
              replace hS := hS.sel [0, 3, 4, 5] [] (sy' := ⟨[(0, V (.slice a1 l_.length c1)), (3, V (.slice a142 (out_119 ++ [[IntKind.i64.wrap (0 - (gi l_ i_112)), IntKind.i64.wrap (0 - (gi l_ k_123))]]).length c143)), (4, I i_112), (5, I k_123)], []⟩) (by kernel_rfl)
              refine region (endP T hS (sp := []) (ks := [0, 3, 4, 5]) (bs := []) (sy' := ⟨[(0, V (.slice a1 l_.length c1)), (3, V (.slice a142 (out_119 ++ [[IntKind.i64.wrap (0 - (gi l_ i_112)), IntKind.i64.wrap (0 - (gi l_ k_123))]]).length c143)), (4, I i_112), (5, I (IntKind.i64.wrap (k_123 + 1)))], []⟩) (by kernel_rfl) ?_)
              intro a hS
              exact ⟨⟨out_119 ++ [[IntKind.i64.wrap (0 - (gi l_ i_112)), IntKind.i64.wrap (0 - (gi l_ k_123))]], IntKind.i64.wrap (k_123 + 1)⟩, ⟨ρ, _, a142, c143, hm.1, hS.sel [0, 3, 4, 5] [] (by kernel_rfl), hO, h118, h141⟩, hm.2⟩
            · replace hm := hm.2 hb
              refine wexit (by rfl) ?_
              exact ⟨ρ, _, out_119, a120, c121, hm, hS.sel [0, 3, 4] [] (by kernel_rfl), hO, h118, h122⟩
        · rintro a w147 ⟨ρ, χ146, out_114, a115, c116, hm, hS, hO, h113, h117⟩
          unfold VC50_J2 at hm
          refine region (endP T hS (sp := []) (ks := [0, 3, 4]) (bs := []) (sy' := ⟨[(0, V (.slice a1 l_.length c1)), (3, V (.slice a115 out_114.length c116)), (4, I (IntKind.i64.wrap (i_112 + 1)))], []⟩) (by kernel_rfl) ?_)
          intro a hS
          exact ⟨⟨out_114, IntKind.i64.wrap (i_112 + 1)⟩, ⟨ρ, _, a115, c116, hm.1, hS.sel [0, 3, 4] [] (by kernel_rfl), hO, h113, h117⟩, hm.2⟩
      · replace hm := hm.2 hb
        refine wexit (by rfl) ?_
        exact ⟨ρ, _, out_108, a109, c110, hm, hS.sel [3] [] (by kernel_rfl), hO, h111⟩
  · rintro a w151 ⟨ρ, χ150, out_101, a102, c103, hm, hS, hO, h104⟩
    unfold VC50_J1 at hm
    refine regP T hS (sp := []) (ks := [2]) (bs := []) (sy' := ⟨[(2, V (.slice a102 out_101.length c103))], []⟩) (by kernel_rfl) ?_
    intro a hS
    refine wret ?_
    obtain ⟨χ105, hE, hF⟩ := h104.freeze (by decide)
    replace hS := hS.ev hE (xone_box (by kernel_rfl))
    replace hO := hO.mv hE rfl rfl
    have h106 := hF; clear hE hF
    exact fin T hS hO (fun c => c) rfl (r := [.slice a102 out_101.length c103]) (by kernel_rfl) (fun χ' hM hC => ⟨out_101, hm, a102, c103, rfl, h106.m0 hM⟩)
theorem C50 (v : ∀ (l_ : List Int), preMost l_ → VC50 l_ (fun r => r = ref32_Most l_)) : S50 := by
  intro w χ l_ a1 c1   hp h1
  refine (W50 w χ l_ a1 c1   _ (v l_ hp) h1).mono ?_
  rintro _ _ _ _ ⟨r, rfl, h⟩
  exact h
def S33 : Prop := ∀ (w : World) (χ : Nat → Nat) (ops : Int) (states : Int) (init : Int), Ret Try.prog 33 #[.int .i64 ops, .int .i64 states, .int .i64 init] xnone w χ (fun w χ' v => ∃ (ra1 : Option Addr) (rc1 : Nat), v = .slice ra1 (ref34_Clauses ops states init).length rc1 ∧ RS (tSlice tI) w χ' ra1 (ref34_Clauses ops states init) rc1)
theorem hb33 : hasBody Try.prog 33 = true := by kernel_rfl
/-- replevin/replevinref34.Clauses -/
theorem W33 (k22 : S22) (k50 : S50) (k60 : S60) (w0 : World) (χ0 : Nat → Nat) (ops : Int) (states : Int) (init : Int) (Q : (List (List Int)) → Prop) (hm : VC33 ops states init Q) :
    Ret Try.prog 33 #[.int .i64 ops, .int .i64 states, .int .i64 init] xnone w0 χ0 (fun w χ' v => ∃ r, Q r ∧ ∃ (ra1 : Option Addr) (rc1 : Nat), v = .slice ra1 r.length rc1 ∧ RS (tSlice tI) w χ' ra1 r rc1) := by
  unfold VC33 at hm
  refine enter Try.func33 rfl (vals := [.int .i64 ops, .int .i64 states, .int .i64 init]) (by kernel_rfl) ?_
  intro ρ a hS hO hM
  clear hM
  refine regP T hS (sp := []) (ks := [0, 1, 2]) (bs := []) (sy' := ⟨[(0, I ops), (1, I states), (2, I init)], []⟩) (by kernel_rfl) ?_
  intro a hS
  refine regP T hS (sp := []) (ks := [0, 1, 2, 7]) (bs := []) (sy' := ⟨[(0, I ops), (1, I states), (2, I init), (7, V (.slice none 0 0))], []⟩) (by kernel_rfl) ?_
  intro a hS
  refine wseq ?_
  refine regO ?_
  refine opsP T hS 2 (sp := []) (ks := [0, 1, 2, 7, 11, 12]) (bs := []) (sy' := ⟨[(0, I ops), (1, I states), (2, I init), (7, V (.slice none 0 0)), (11, I ops), (12, I states)], []⟩) (by kernel_rfl) ?_
  intro a hS
  refine op1 (call hS (by kernel_rfl) (by kernel_rfl) hb22 (by kernel_rfl) (fun _ _ => rfl) (k22 _ _ ops states) ?_)
  intro v101 a w102 χ103 hE hp hS
  replace hO := hO.mv hE rfl rfl
  clear hE
  obtain ⟨r104, hr⟩ : ∃ r, ref31_Check ops states = r := ⟨_, rfl⟩
  replace hm := hm r104 hr
  rw [hr] at hp
  clear hr
  subst hp
  refine endP T hS (sp := [15, 19]) (ks := [0, 1, 2, 7, 23]) (bs := []) (sy' := ⟨[(0, I ops), (1, I states), (2, I init), (7, V (.slice none 0 0)), (23, B (((r104 != 0) || (decide (init < 0))) || (decide (init ≥ states))))], []⟩) (by kernel_rfl) ?_
  intro a hS
  refine wcond hS (b := (((r104 != 0) || (decide (init < 0))) || (decide (init ≥ states)))) (by kernel_rfl) (fun hb => ?_) (fun hb => ?_)
  · replace hm := hm.1 hb
    refine regP T hS (sp := []) (ks := [6]) (bs := []) (sy' := ⟨[(6, V (.slice none 0 0))], []⟩) (by kernel_rfl) ?_
    intro a hS
    refine wret ?_
    exact fin T hS hO (fun c => c) rfl (r := [.slice none 0 0]) (by kernel_rfl) (fun χ' hM hC => ⟨[], hm, none, 0, rfl, RS.empty _ _ _⟩)
  · replace hm := hm.2 hb
    refine wskip ?_
    refine regO ?_
    refine opsP T hS 4 (sp := []) (ks := [0, 1, 7, 25, 26, 27, 28]) (bs := []) (sy' := ⟨[(0, I ops), (1, I states), (7, V (.slice none 0 0)), (25, V (.slice none 0 0)), (26, I ops), (27, I states), (28, I init)], []⟩) (by kernel_rfl) ?_
    intro a hS
    refine op1 (call hS (by kernel_rfl) (by kernel_rfl) hb60 (by kernel_rfl) (fun _ _ => rfl) (k60 _ _ ops states 0 init) ?_)
    intro v105 a w106 χ107 hE hp hS
    replace hO := hO.mv hE rfl rfl
    clear hE
    obtain ⟨r108, hr⟩ : ∃ r, ref31_State ops states 0 init = r := ⟨_, rfl⟩
    replace hm := hm r108 hr
    rw [hr] at hp
    clear hr
    subst hp
    refine op1 (lit (E := 3) (col := 0) (T := tI) (vals := [.int .i64 r108]) (ys := [r108]) T hS (by kernel_rfl) (by kernel_rfl) (by kernel_rfl) (by kernel_rfl) (by exact ⟨rfl, trivial⟩) rfl (by kernel_rfl) (by kernel_rfl) (by kernel_rfl) (by kernel_rfl) ?_)
    intro b109 a w110 χ111 hE h112 hN hS
    clear hN
    replace hO := hO.mv hE rfl rfl
    clear hE
    replace h112 := h112.rs0
    refine op1 (lit (E := 42) (col := 0) (T := (tSlice tI)) (vals := [.slice (some ⟨b109, 0, none⟩) [r108].length 1]) (ys := [[r108]]) T hS (by kernel_rfl) (by kernel_rfl) (by kernel_rfl) (by kernel_rfl) (by exact ⟨⟨(some ⟨b109, 0, none⟩), 1, rfl, h112⟩, trivial⟩) rfl (by kernel_rfl) (by kernel_rfl) (by kernel_rfl) (by kernel_rfl) ?_)
    intro b113 a w114 χ115 hE h116 hN hS
    clear hN
    replace hO := hO.mv hE rfl rfl
    replace h112 := h112.mv hE rfl
    clear hE
    replace h116 := h116.rs0
    obtain ⟨hq, hm⟩ := hm
    obtain ⟨news, hN⟩ := h116.src
    refine op1 (append (E := 42) (T := (tSlice tI)) (col := 1007) (xs := []) T hS (by kernel_rfl) (by kernel_rfl) (by kernel_rfl) (by kernel_rfl) (OS.nil _ _ _ _ _) hN (by kernel_rfl) (by kernel_rfl) (by kernel_rfl) (by kernel_rfl) hq ?_)
    intro a120 c121 a w117 χ118 hE h119 hS
    clear hq hN
    replace hO := hO.mv hE rfl rfl
    replace h112 := h112.mv hE rfl
    replace h116 := h116.mv hE rfl
    clear hE
    refine endP T hS (sp := []) (ks := [0, 1, 7]) (bs := []) (sy' := ⟨[(0, I ops), (1, I states), (7, V (.slice a120 ([] ++ [[r108]]).length c121))], []⟩) (by kernel_rfl) ?_
    intro a hS
    refine wcut (fun a w => ∃ (ρ : Nat → Nat) (χ : Nat → Nat) (out_122 : List (List Int)) (a123 : Option Addr) (c124 : Nat), VC33_J1 Q out_122 ∧ St Try.f33.ntmps ⟨[(7, V (.slice a123 out_122.length c124))], []⟩ ρ a w χ ∧ Old w0 χ0 w χ ∧ OS (tSlice tI) 42 w χ 1007 a123 out_122 c124) ?_ ?_
    · refine regP T hS (sp := []) (ks := [0, 1, 7, 8]) (bs := []) (sy' := ⟨[(0, I ops), (1, I states), (7, V (.slice a120 ([] ++ [[r108]]).length c121)), (8, I 0)], []⟩) (by kernel_rfl) ?_
      intro a hS
      refine wblock ?_
      obtain ⟨I1, μ1, hm0, hm⟩ := hm
      refine wloop (σ := (List (List Int)) × Int) (fun s a w => ∃ (ρ : Nat → Nat) (χ : Nat → Nat) (a129 : Option Addr) (c130 : Nat), I1 s.1 s.2 ∧ St Try.f33.ntmps ⟨[(0, I ops), (1, I states), (7, V (.slice a129 s.1.length c130)), (8, I s.2)], []⟩ ρ a w χ ∧ Old w0 χ0 w χ ∧ OS (tSlice tI) 42 w χ 1007 a129 s.1 c130) (fun s => μ1 s.1 s.2) (⟨[] ++ [[r108]], 0⟩) ?_ ?_
      · exact ⟨ρ, _, a120, c121, hm0, hS.sel [0, 1, 7, 8] [] (by kernel_rfl), hO, h119⟩
      · rintro ⟨out_128, a_132⟩ a w191 ⟨ρ, χ190, a129, c130, hI, hS, hO, h131⟩
        replace hm := hm out_128 a_132 hI
        clear hI hm0
        refine wseq ?_
        refine regP T hS (sp := []) (ks := [0, 1, 7, 8, 35]) (bs := []) (sy' := ⟨[(0, I ops), (1, I states), (7, V (.slice a129 out_128.length c130)), (8, I a_132), (35, B (decide (a_132 ≤ ops)))], []⟩) (by kernel_rfl) ?_
        intro a hS
        refine wcond hS (b := decide (a_132 ≤ ops)) (by kernel_rfl) (fun hb => ?_) (fun hb => ?_)
        · replace hm := hm.1 hb
          refine wskip ?_
          refine wseq ?_
          refine wblock ?_
          refine regP T hS (sp := []) (ks := [0, 1, 7, 8, 9]) (bs := []) (sy' := ⟨[(0, I ops), (1, I states), (7, V (.slice a129 out_128.length c130)), (8, I a_132), (9, V (.slice none 0 0))], []⟩) (by kernel_rfl) ?_
          intro a hS
          refine wcut (fun a w => ∃ (ρ : Nat → Nat) (χ : Nat → Nat) (out_133 : List (List Int)) (l_137 : List Int) (a134 : Option Addr) (c135 : Nat) (a138 : Option Addr) (c139 : Nat), VC33_J2 I1 μ1 out_128 a_132 out_133 l_137 ∧ St Try.f33.ntmps ⟨[(0, I ops), (1, I states), (7, V (.slice a134 out_133.length c135)), (8, I a_132), (9, V (.slice a138 l_137.length c139))], []⟩ ρ a w χ ∧ Old w0 χ0 w χ ∧ OS (tSlice tI) 42 w χ 1007 a134 out_133 c135 ∧ OS tI 3 w χ 1010 a138 l_137 c139) ?_ ?_
          · refine regP T hS (sp := []) (ks := [0, 1, 7, 8, 9, 10]) (bs := []) (sy' := ⟨[(0, I ops), (1, I states), (7, V (.slice a129 out_128.length c130)), (8, I a_132), (9, V (.slice none 0 0)), (10, I 0)], []⟩) (by kernel_rfl) ?_
            intro a hS
            refine wblock ?_
            obtain ⟨I2, μ2, hm0, hm⟩ := hm
            refine wloop (σ := (List (List Int)) × (List Int) × Int) (fun s a w => ∃ (ρ : Nat → Nat) (χ : Nat → Nat) (a165 : Option Addr) (c166 : Nat) (a169 : Option Addr) (c170 : Nat), I2 s.1 s.2.1 s.2.2 ∧ St Try.f33.ntmps ⟨[(0, I ops), (1, I states), (7, V (.slice a165 s.1.length c166)), (8, I a_132), (9, V (.slice a169 s.2.1.length c170)), (10, I s.2.2)], []⟩ ρ a w χ ∧ Old w0 χ0 w χ ∧ OS (tSlice tI) 42 w χ 1007 a165 s.1 c166 ∧ OS tI 3 w χ 1010 a169 s.2.1 c170) (fun s => μ2 s.1 s.2.1 s.2.2) (⟨out_128, [], 0⟩) ?_ ?_
            · exact ⟨ρ, _, a129, c130, none, 0, hm0, hS.sel [0, 1, 7, 8, 9, 10] [] (by kernel_rfl), hO, h131, (OS.nil _ _ _ _ _)⟩
            · rintro ⟨out_164, l_168, b_172⟩ a w187 ⟨ρ, χ186, a165, c166, a169, c170, hI, hS, hO, h167, h171⟩
              replace hm := hm out_164 l_168 b_172 hI
              clear hI hm0
              refine wseq ?_
              refine regP T hS (sp := []) (ks := [0, 1, 7, 8, 9, 10, 40]) (bs := []) (sy' := ⟨[(0, I ops), (1, I states), (7, V (.slice a165 out_164.length c166)), (8, I a_132), (9, V (.slice a169 l_168.length c170)), (10, I b_172), (40, B (decide (b_172 < states)))], []⟩) (by kernel_rfl) ?_
              intro a hS
              refine wcond hS (b := decide (b_172 < states)) (by kernel_rfl) (fun hb => ?_) (fun hb => ?_)
              · replace hm := hm.1 hb
                refine wskip ?_
                refine wseq ?_
                refine wblock ?_
                refine region ?_
                refine opsP T hS 5 (sp := []) (ks := [0, 1, 7, 8, 9, 10, 43, 44, 45, 46, 47]) (bs := []) (sy' := ⟨[(0, I ops), (1, I states), (7, V (.slice a165 out_164.length c166)), (8, I a_132), (9, V (.slice a169 l_168.length c170)), (10, I b_172), (43, V (.slice a169 l_168.length c170)), (44, I ops), (45, I states), (46, I a_132), (47, I b_172)], []⟩) (by kernel_rfl) ?_
                intro a hS
                refine op1 (call hS (by kernel_rfl) (by kernel_rfl) hb60 (by kernel_rfl) (fun _ _ => rfl) (k60 _ _ ops states a_132 b_172) ?_)
                intro v173 a w174 χ175 hE hp hS
                replace hO := hO.mv hE rfl rfl
                replace h167 := h167.mv hE rfl rfl
                replace h171 := h171.mv hE rfl rfl
                clear hE
                obtain ⟨r176, hr⟩ : ∃ r, ref31_State ops states a_132 b_172 = r := ⟨_, rfl⟩
                replace hm := hm r176 hr
                rw [hr] at hp
                clear hr
                subst hp
                refine op1 (lit (E := 3) (col := 0) (T := tI) (vals := [.int .i64 r176]) (ys := [r176]) T hS (by kernel_rfl) (by kernel_rfl) (by kernel_rfl) (by kernel_rfl) (by exact ⟨rfl, trivial⟩) rfl (by kernel_rfl) (by kernel_rfl) (by kernel_rfl) (by kernel_rfl) ?_)
                intro b177 a w178 χ179 hE h180 hN hS
                clear hN
                replace hO := hO.mv hE rfl rfl
                replace h167 := h167.mv hE rfl rfl
                replace h171 := h171.mv hE rfl rfl
                clear hE
                replace h180 := h180.rs0
                obtain ⟨hq, hm⟩ := hm
                obtain ⟨news, hN⟩ := h180.src
                refine op1 (append (E := 3) (T := tI) (col := 1010) (xs := l_168) T hS (by kernel_rfl) (by kernel_rfl) (by kernel_rfl) (by kernel_rfl) h171 hN (by kernel_rfl) (by kernel_rfl) (by kernel_rfl) (by kernel_rfl) hq ?_)
                intro a184 c185 a w181 χ182 hE h183 hS
                clear hq hN
                clear h171
                replace hO := hO.mv hE rfl rfl
                replace h167 := h167.mv hE rfl rfl
                replace h180 := h180.mv hE rfl
                clear hE
                refine endP T hS (sp := []) (ks := [0, 1, 7, 8, 9, 10]) (bs := []) (sy' := ⟨[(0, I ops), (1, I states), (7, V (.slice a165 out_164.length c166)), (8, I a_132), (9, V (.slice a184 (l_168 ++ [r176]).length c185)), (10, I b_172)], []⟩) (by kernel_rfl) ?_
                intro a hS
                refine region (endP T hS (sp := []) (ks := [0, 1, 7, 8, 9, 10]) (bs := []) (sy' := ⟨[(0, I ops), (1, I states), (7, V (.slice a165 out_164.length c166)), (8, I a_132), (9, V (.slice a184 (l_168 ++ [r176]).length c185)), (10, I (IntKind.i64.wrap (b_172 + 1)))], []⟩) (by kernel_rfl) ?_)
                intro a hS
                exact ⟨⟨out_164, l_168 ++ [r176], IntKind.i64.wrap (b_172 + 1)⟩, ⟨ρ, _, a165, c166, a184, c185, hm.1, hS.sel [0, 1, 7, 8, 9, 10] [] (by kernel_rfl), hO, h167, h183⟩, hm.2⟩
              · replace hm := hm.2 hb
                refine wexit (by rfl) ?_
                exact ⟨ρ, _, out_164, l_168, a165, c166, a169, c170, hm, hS.sel [0, 1, 7, 8, 9] [] (by kernel_rfl), hO, h167, h171⟩
          · rintro a w189 ⟨ρ, χ188, out_133, l_137, a134, c135, a138, c139, hm, hS, hO, h136, h140⟩
            unfold VC33_J2 at hm
            refine regO ?_
            refine opsP T hS 2 (sp := []) (ks := [0, 1, 7, 8, 9, 51, 52]) (bs := []) (sy' := ⟨[(0, I ops), (1, I states), (7, V (.slice a134 out_133.length c135)), (8, I a_132), (9, V (.slice a138 l_137.length c139)), (51, V (.slice a134 out_133.length c135)), (52, V (.slice a138 l_137.length c139))], []⟩) (by kernel_rfl) ?_
            intro a hS
            obtain ⟨χ141, hE, hF⟩ := h140.freeze (by decide)
            replace hS := hS.ev hE (xone_box (by kernel_rfl))
            replace hO := hO.mv hE rfl rfl
            replace h136 := h136.mv hE rfl rfl
            have h142 := hF; clear hE hF
            refine op1 (lit (E := 42) (col := 0) (T := (tSlice tI)) (vals := [.slice a138 l_137.length c139]) (ys := [l_137]) T hS (by kernel_rfl) (by kernel_rfl) (by kernel_rfl) (by kernel_rfl) (by exact ⟨⟨a138, c139, rfl, h142⟩, trivial⟩) rfl (by kernel_rfl) (by kernel_rfl) (by kernel_rfl) (by kernel_rfl) ?_)
            intro b143 a w144 χ145 hE h146 hN hS
            clear hN
            replace hO := hO.mv hE rfl rfl
            replace h136 := h136.mv hE rfl rfl
            replace h142 := h142.mv hE rfl
            clear hE
            replace h146 := h146.rs0
            obtain ⟨hq, hm⟩ := hm
            obtain ⟨news, hN⟩ := h146.src
            refine op1 (append (E := 42) (T := (tSlice tI)) (col := 1007) (xs := out_133) T hS (by kernel_rfl) (by kernel_rfl) (by kernel_rfl) (by kernel_rfl) h136 hN (by kernel_rfl) (by kernel_rfl) (by kernel_rfl) (by kernel_rfl) hq ?_)
            intro a150 c151 a w147 χ148 hE h149 hS
            clear hq hN
            clear h136
            replace hO := hO.mv hE rfl rfl
            replace h142 := h142.mv hE rfl
            replace h146 := h146.mv hE rfl
            clear hE
            refine endP T hS (sp := []) (ks := [0, 1, 7, 8, 9]) (bs := []) (sy' := ⟨[(0, I ops), (1, I states), (7, V (.slice a150 (out_133 ++ [l_137]).length c151)), (8, I a_132), (9, V (.slice a138 l_137.length c139))], []⟩) (by kernel_rfl) ?_
            intro a hS
            refine region ?_
            refine opsP T hS 2 (sp := []) (ks := [0, 1, 7, 8, 55, 56]) (bs := []) (sy' := ⟨[(0, I ops), (1, I states), (7, V (.slice a150 (out_133 ++ [l_137]).length c151)), (8, I a_132), (55, V (.slice a150 (out_133 ++ [l_137]).length c151)), (56, V (.slice a138 l_137.length c139))], []⟩) (by kernel_rfl) ?_
            intro a hS
            obtain ⟨hq, hm⟩ := hm
            refine op1 (call hS (by kernel_rfl) (by kernel_rfl) hb50 (by kernel_rfl) (fun _ _ => rfl) (k50 _ _ l_137 a138 c139 hq h142) ?_)
            intro v152 a w153 χ154 hE hp hS
            clear hq
            replace hO := hO.mv hE rfl rfl
            replace h142 := h142.mv hE rfl
            replace h149 := h149.mv hE rfl rfl
            clear hE
            obtain ⟨a156, c157, hp, h158⟩ := hp
            obtain ⟨r155, hr⟩ : ∃ r, ref32_Most l_137 = r := ⟨_, rfl⟩
            replace hm := hm r155 hr
            rw [hr] at hp h158
            clear hr
            subst hp
            replace hm := hm (h158.sm (by kernel_rfl))
            obtain ⟨hq, hm⟩ := hm
            obtain ⟨news, hN⟩ := h158.src
            refine op1 (append (E := 42) (T := (tSlice tI)) (col := 1007) (xs := out_133 ++ [l_137]) T hS (by kernel_rfl) (by kernel_rfl) (by kernel_rfl) (by kernel_rfl) h149 hN (by kernel_rfl) (by kernel_rfl) (by kernel_rfl) (by kernel_rfl) hq ?_)
            intro a162 c163 a w159 χ160 hE h161 hS
            clear hq hN
            clear h149
            replace hO := hO.mv hE rfl rfl
            replace h142 := h142.mv hE rfl
            replace h158 := h158.mv hE rfl
            clear hE
            refine endP T hS (sp := []) (ks := [0, 1, 7, 8]) (bs := []) (sy' := ⟨[(0, I ops), (1, I states), (7, V (.slice a162 ((out_133 ++ [l_137]) ++ r155).length c163)), (8, I a_132)], []⟩) (by kernel_rfl) ?_
            intro a hS
            refine region (endP T hS (sp := []) (ks := [0, 1, 7, 8]) (bs := []) (sy' := ⟨[(0, I ops), (1, I states), (7, V (.slice a162 ((out_133 ++ [l_137]) ++ r155).length c163)), (8, I (IntKind.i64.wrap (a_132 + 1)))], []⟩) (by kernel_rfl) ?_)
            intro a hS
            exact ⟨⟨(out_133 ++ [l_137]) ++ r155, IntKind.i64.wrap (a_132 + 1)⟩, ⟨ρ, _, a162, c163, hm.1, hS.sel [0, 1, 7, 8] [] (by kernel_rfl), hO, h161⟩, hm.2⟩
        · replace hm := hm.2 hb
          refine wexit (by rfl) ?_
          exact ⟨ρ, _, out_128, a129, c130, hm, hS.sel [7] [] (by kernel_rfl), hO, h131⟩
    · rintro a w193 ⟨ρ, χ192, out_122, a123, c124, hm, hS, hO, h125⟩
      unfold VC33_J1 at hm
      refine regP T hS (sp := []) (ks := [6]) (bs := []) (sy' := ⟨[(6, V (.slice a123 out_122.length c124))], []⟩) (by kernel_rfl) ?_
      intro a hS
      refine wret ?_
      obtain ⟨χ126, hE, hF⟩ := h125.freeze (by decide)
      replace hS := hS.ev hE (xone_box (by kernel_rfl))
      replace hO := hO.mv hE rfl rfl
      have h127 := hF; clear hE hF
      exact fin T hS hO (fun c => c) rfl (r := [.slice a123 out_122.length c124]) (by kernel_rfl) (fun χ' hM hC => ⟨out_122, hm, a123, c124, rfl, h127.m0 hM⟩)
theorem C33 (k22 : S22) (k50 : S50) (k60 : S60) (v : ∀ (ops : Int) (states : Int) (init : Int), VC33 ops states init (fun r => r = ref34_Clauses ops states init)) : S33 := by
  intro w χ ops states init    
  refine (W33 k22 k50 k60 w χ ops states init    _ (v ops states init)).mono ?_
  rintro _ _ _ _ ⟨r, rfl, h⟩
  exact h
def S35 : Prop := ∀ (w : World) (χ : Nat → Nat) (a_ : List Bool) (b_ : List Bool) (a1 : Option Addr) (c1 : Nat) (a2 : Option Addr) (c2 : Nat), RS tBool w χ a1 a_ c1 → RS tBool w χ a2 b_ c2 → Ret Try.prog 35 #[.slice a1 a_.length c1, .slice a2 b_.length c2] xnone w χ (fun w χ' v => v = .bool (ref03_SameBools a_ b_))
theorem hb35 : hasBody Try.prog 35 = true := by kernel_rfl
/-- replevin/replevinref03.SameBools -/
theorem W35 (w0 : World) (χ0 : Nat → Nat) (a_ : List Bool) (b_ : List Bool) (a1 : Option Addr) (c1 : Nat) (a2 : Option Addr) (c2 : Nat) (Q : Bool → Prop) (hm : VC35 a_ b_ Q) (h1 : RS tBool w0 χ0 a1 a_ c1) (h2 : RS tBool w0 χ0 a2 b_ c2) :
    Ret Try.prog 35 #[.slice a1 a_.length c1, .slice a2 b_.length c2] xnone w0 χ0 (fun w χ' v => ∃ r, Q r ∧ v = .bool r) := by
  unfold VC35 at hm
  replace hm := hm (h1.sm (by kernel_rfl))
  replace hm := hm (h2.sm (by kernel_rfl))
  refine enter Try.func35 rfl (vals := [.slice a1 a_.length c1, .slice a2 b_.length c2]) (by kernel_rfl) ?_
  intro ρ a hS hO hM
  replace h1 := h1.m0 hM
  replace h2 := h2.m0 hM
  clear hM
  refine regP T hS (sp := []) (ks := [0, 1]) (bs := []) (sy' := ⟨[(0, V (.slice a1 a_.length c1)), (1, V (.slice a2 b_.length c2))], []⟩) (by kernel_rfl) ?_
  intro a hS
  refine wseq ?_
  refine regP T hS (sp := []) (ks := [0, 1, 10]) (bs := []) (sy' := ⟨[(0, V (.slice a1 a_.length c1)), (1, V (.slice a2 b_.length c2)), (10, B (((a_.length : Nat) : Int) != ((b_.length : Nat) : Int)))], []⟩) (by kernel_rfl) ?_
  intro a hS
  refine wcond hS (b := (((a_.length : Nat) : Int) != ((b_.length : Nat) : Int))) (by kernel_rfl) (fun hb => ?_) (fun hb => ?_)
  · replace hm := hm.1 hb
    refine regP T hS (sp := []) (ks := [4]) (bs := []) (sy' := ⟨[(4, B false)], []⟩) (by kernel_rfl) ?_
    intro a hS
    refine wret ?_
    exact fin T hS hO (fun c => c) rfl (r := [.bool false]) (by kernel_rfl) (fun χ' hM hC => ⟨false, hm, rfl⟩)
  · replace hm := hm.2 hb
    refine wskip ?_
    refine wcut (fun a w => ∃ (ρ : Nat → Nat) (χ : Nat → Nat), VC35_J1 Q ∧ St Try.f35.ntmps ⟨[], []⟩ ρ a w χ ∧ Old w0 χ0 w χ) ?_ ?_
    · refine regP T hS (sp := []) (ks := [0, 1, 5]) (bs := []) (sy' := ⟨[(0, V (.slice a1 a_.length c1)), (1, V (.slice a2 b_.length c2)), (5, I 0)], []⟩) (by kernel_rfl) ?_
      intro a hS
      refine wblock ?_
      obtain ⟨I1, μ1, hm0, hm⟩ := hm
      refine wloop (σ := Int) (fun s a w => ∃ (ρ : Nat → Nat) (χ : Nat → Nat), I1 s ∧ St Try.f35.ntmps ⟨[(0, V (.slice a1 a_.length c1)), (1, V (.slice a2 b_.length c2)), (5, I s)], []⟩ ρ a w χ ∧ Old w0 χ0 w χ ∧ RS tBool w χ a1 a_ c1 ∧ RS tBool w χ a2 b_ c2) (fun s => μ1 s) (0) ?_ ?_
      · exact ⟨ρ, _, hm0, hS.sel [0, 1, 5] [] (by kernel_rfl), hO, h1, h2⟩
      · rintro i_103 a w112 ⟨ρ, χ111, hI, hS, hO, h101, h102⟩
        replace hm := hm i_103 hI
        clear hI hm0
        refine wseq ?_
        refine regP T hS (sp := []) (ks := [0, 1, 5, 14]) (bs := []) (sy' := ⟨[(0, V (.slice a1 a_.length c1)), (1, V (.slice a2 b_.length c2)), (5, I i_103), (14, B (decide (i_103 < ((a_.length : Nat) : Int))))], []⟩) (by kernel_rfl) ?_
        intro a hS
        refine wcond hS (b := decide (i_103 < ((a_.length : Nat) : Int))) (by kernel_rfl) (fun hb => ?_) (fun hb => ?_)
        · replace hm := hm.1 hb
          refine wskip ?_
          refine wseq ?_
          refine wblock ?_
          refine drawnS [] mixed hS ?_
          intro w104 hS hE hD hH
          replace hO := hO.mv hE rfl rfl
          replace h101 := h101.mv hE rfl
          replace h102 := h102.mv hE rfl
          clear hE
          refine take T [0, 1, 4, 5] [] [0, 1, 5, 17, 18, 21, 22] hS (by kernel_rfl) (by kernel_rfl) (by kernel_rfl) hH (listed' := #[true, true, false, false, true, true, false, false, false]) (fuel := 5) (sy' := ⟨[(0, V (.slice a1 a_.length c1)), (1, V (.slice a2 b_.length c2)), (5, I i_103), (17, V (.slice a1 a_.length c1)), (18, I i_103), (21, V (.slice a2 b_.length c2)), (22, I i_103)], []⟩) (by kernel_rfl) (by rfl) ?_
          intro a hS
          obtain ⟨hq, hm⟩ := hm
          refine dindex (e := 4) (k := .i64) T 2 hS (by kernel_rfl) (by kernel_rfl) (by kernel_rfl) (by rfl) (by kernel_rfl) hH (by kernel_rfl) (by kernel_rfl) h101 (by kernel_rfl) (by kernel_rfl) hq.1 hq.2 ?_
          intro A105 a h106 hS
          clear hq
          have h106b := h106.here
          refine dload1 T 3 hS (by kernel_rfl) (by kernel_rfl) (by kernel_rfl) (by rfl) (by kernel_rfl) hH (by kernel_rfl) h106 h106b rfl (by kernel_rfl) ?_
          intro v107 a hv hS
          cases hv
          obtain ⟨hq, hm⟩ := hm
          refine dindex (e := 4) (k := .i64) T 6 hS (by kernel_rfl) (by kernel_rfl) (by kernel_rfl) (by rfl) (by kernel_rfl) hH (by kernel_rfl) (by kernel_rfl) h102 (by kernel_rfl) (by kernel_rfl) hq.1 hq.2 ?_
          intro A108 a h109 hS
          clear hq
          have h109b := h109.here
          refine dload1 T 7 hS (by kernel_rfl) (by kernel_rfl) (by kernel_rfl) (by rfl) (by kernel_rfl) hH (by kernel_rfl) h109 h109b rfl (by kernel_rfl) ?_
          intro v110 a hv hS
          cases hv
          refine take T [8] [] [0, 1, 5, 25] hS (by kernel_rfl) (by kernel_rfl) (by kernel_rfl) hH (listed' := #[true, true, true, true, true, true, true, true, true]) (fuel := 0) (sy' := ⟨[(0, V (.slice a1 a_.length c1)), (1, V (.slice a2 b_.length c2)), (5, I i_103), (25, B ((gi a_ i_103) != (gi b_ i_103)))], []⟩) (by kernel_rfl) (by rfl) ?_
          intro a hS
          refine drawnDone (by kernel_rfl) ?_
          clear hD hH
          replace hS := hS.sel [0, 1, 5, 25] [] (sy' := ⟨[(0, V (.slice a1 a_.length c1)), (1, V (.slice a2 b_.length c2)), (5, I i_103), (25, B ((gi a_ i_103) != (gi b_ i_103)))], []⟩) (by kernel_rfl)
          refine wcond hS (b := ((gi a_ i_103) != (gi b_ i_103))) (by kernel_rfl) (fun hb => ?_) (fun hb => ?_)
          · replace hm := hm.1 hb
            refine regP T hS (sp := []) (ks := [4]) (bs := []) (sy' := ⟨[(4, B false)], []⟩) (by kernel_rfl) ?_
            intro a hS
            refine wret ?_
            exact fin T hS hO (fun c => c) rfl (r := [.bool false]) (by kernel_rfl) (fun χ' hM hC => ⟨false, hm, rfl⟩)
          · replace hm := hm.2 hb
            refine wskip ?_
            refine region (endP T hS (sp := []) (ks := [0, 1, 5]) (bs := []) (sy' := ⟨[(0, V (.slice a1 a_.length c1)), (1, V (.slice a2 b_.length c2)), (5, I (IntKind.i64.wrap (i_103 + 1)))], []⟩) (by kernel_rfl) ?_)
            intro a hS
            exact ⟨IntKind.i64.wrap (i_103 + 1), ⟨ρ, _, hm.1, hS.sel [0, 1, 5] [] (by kernel_rfl), hO, h101, h102⟩, hm.2⟩
        · replace hm := hm.2 hb
          refine wexit (by rfl) ?_
          exact ⟨ρ, _, hm, hS.sel [] [] (by kernel_rfl), hO⟩
    · rintro a w114 ⟨ρ, χ113, hm, hS, hO⟩
      unfold VC35_J1 at hm
      refine regP T hS (sp := []) (ks := [4]) (bs := []) (sy' := ⟨[(4, B true)], []⟩) (by kernel_rfl) ?_
      intro a hS
      refine wret ?_
      exact fin T hS hO (fun c => c) rfl (r := [.bool true]) (by kernel_rfl) (fun χ' hM hC => ⟨true, hm, rfl⟩)
theorem C35 (v : ∀ (a_ : List Bool) (b_ : List Bool), VC35 a_ b_ (fun r => r = ref03_SameBools a_ b_)) : S35 := by
  intro w χ a_ b_ a1 c1 a2 c2   h1 h2
  refine (W35 w χ a_ b_ a1 c1 a2 c2   _ (v a_ b_) h1 h2).mono ?_
  rintro _ _ _ _ ⟨r, rfl, h⟩
  exact h
def S79 : Prop := ∀ (w : World) (χ : Nat → Nat) (l_ : Int), Ret Try.prog 79 #[.int .i64 l_] xnone w χ (fun w χ' v => v = .tuple #[.int .i64 ((ref01_Split l_).1), .bool ((ref01_Split l_).2)])
theorem hb79 : hasBody Try.prog 79 = true := by kernel_rfl
/-- replevin/replevinref01.Split -/
theorem W79 (w0 : World) (χ0 : Nat → Nat) (l_ : Int) (Q : Int × Bool → Prop) (hm : VC79 l_ Q) :
    Ret Try.prog 79 #[.int .i64 l_] xnone w0 χ0 (fun w χ' v => ∃ r, Q r ∧ v = .tuple #[.int .i64 r.1, .bool r.2]) := by
  unfold VC79 at hm
  refine enter Try.func79 rfl (vals := [.int .i64 l_]) (by kernel_rfl) ?_
  intro ρ a hS hO hM
  clear hM
  refine regP T hS (sp := []) (ks := [0]) (bs := []) (sy' := ⟨[(0, I l_)], []⟩) (by kernel_rfl) ?_
  intro a hS
  refine wseq ?_
  refine regP T hS (sp := [6]) (ks := [0, 9]) (bs := []) (sy' := ⟨[(0, I l_), (9, B ((decide (l_ > 0)) && (decide (l_ ≤ 100000))))], []⟩) (by kernel_rfl) ?_
  intro a hS
  refine wcond hS (b := ((decide (l_ > 0)) && (decide (l_ ≤ 100000)))) (by kernel_rfl) (fun hb => ?_) (fun hb => ?_)
  · replace hm := hm.1 hb
    refine regP T hS (sp := []) (ks := [2, 3]) (bs := []) (sy' := ⟨[(2, I l_), (3, B true)], []⟩) (by kernel_rfl) ?_
    intro a hS
    refine wret ?_
    exact fin T hS hO (fun c => c) rfl (r := [.int .i64 l_, .bool true]) (by kernel_rfl) (fun χ' hM hC => ⟨(l_, true), hm, rfl⟩)
  · replace hm := hm.2 hb
    refine wskip ?_
    refine wseq ?_
    refine regP T hS (sp := [13]) (ks := [0, 16]) (bs := []) (sy' := ⟨[(0, I l_), (16, B ((decide (l_ < 0)) && (decide (l_ ≥ (-100000)))))], []⟩) (by kernel_rfl) ?_
    intro a hS
    refine wcond hS (b := ((decide (l_ < 0)) && (decide (l_ ≥ (-100000))))) (by kernel_rfl) (fun hb => ?_) (fun hb => ?_)
    · replace hm := hm.1 hb
      refine regP T hS (sp := []) (ks := [2, 3]) (bs := []) (sy' := ⟨[(2, I (IntKind.i64.wrap (0 - l_))), (3, B false)], []⟩) (by kernel_rfl) ?_
      intro a hS
      refine wret ?_
      exact fin T hS hO (fun c => c) rfl (r := [.int .i64 (IntKind.i64.wrap (0 - l_)), .bool false]) (by kernel_rfl) (fun χ' hM hC => ⟨(IntKind.i64.wrap (0 - l_), false), hm, rfl⟩)
    · replace hm := hm.2 hb
      refine wskip ?_
      refine regP T hS (sp := []) (ks := [2, 3]) (bs := []) (sy' := ⟨[(2, I 0), (3, B false)], []⟩) (by kernel_rfl) ?_
      intro a hS
      refine wret ?_
      exact fin T hS hO (fun c => c) rfl (r := [.int .i64 0, .bool false]) (by kernel_rfl) (fun χ' hM hC => ⟨(0, false), hm, rfl⟩)
theorem C79 (v : ∀ (l_ : Int), VC79 l_ (fun r => r = ref01_Split l_)) : S79 := by
  intro w χ l_    
  refine (W79 w χ l_    _ (v l_)).mono ?_
  rintro _ _ _ _ ⟨r, rfl, h⟩
  exact h
def S62 : Prop := ∀ (w : World) (χ : Nat → Nat) (c_ : List Int) (m_ : List Bool) (a1 : Option Addr) (c1 : Nat) (a2 : Option Addr) (c2 : Nat), RS tI w χ a1 c_ c1 → RS tBool w χ a2 m_ c2 → Ret Try.prog 62 #[.slice a1 c_.length c1, .slice a2 m_.length c2] xnone w χ (fun w χ' v => v = .bool (ref02_Holds c_ m_))
theorem hb62 : hasBody Try.prog 62 = true := by kernel_rfl
/-- replevin/replevinref02.Holds -/
theorem W62 (k79 : S79) (w0 : World) (χ0 : Nat → Nat) (c_ : List Int) (m_ : List Bool) (a1 : Option Addr) (c1 : Nat) (a2 : Option Addr) (c2 : Nat) (Q : Bool → Prop) (hm : VC62 c_ m_ Q) (h1 : RS tI w0 χ0 a1 c_ c1) (h2 : RS tBool w0 χ0 a2 m_ c2) :
    Ret Try.prog 62 #[.slice a1 c_.length c1, .slice a2 m_.length c2] xnone w0 χ0 (fun w χ' v => ∃ r, Q r ∧ v = .bool r) := by
  unfold VC62 at hm
  replace hm := hm (h1.sm (by kernel_rfl))
  replace hm := hm (h2.sm (by kernel_rfl))
  refine enter Try.func62 rfl (vals := [.slice a1 c_.length c1, .slice a2 m_.length c2]) (by kernel_rfl) ?_
  intro ρ a hS hO hM
  replace h1 := h1.m0 hM
  replace h2 := h2.m0 hM
  clear hM
  refine regP T hS (sp := []) (ks := [0, 1]) (bs := []) (sy' := ⟨[(0, V (.slice a1 c_.length c1)), (1, V (.slice a2 m_.length c2))], []⟩) (by kernel_rfl) ?_
  intro a hS
  refine wcut (fun a w => ∃ (ρ : Nat → Nat) (χ : Nat → Nat), VC62_J1 Q ∧ St Try.f62.ntmps ⟨[], []⟩ ρ a w χ ∧ Old w0 χ0 w χ) ?_ ?_
  · refine regP T hS (sp := []) (ks := [0, 1, 5]) (bs := []) (sy' := ⟨[(0, V (.slice a1 c_.length c1)), (1, V (.slice a2 m_.length c2)), (5, I 0)], []⟩) (by kernel_rfl) ?_
    intro a hS
    refine wblock ?_
    obtain ⟨I1, μ1, hm0, hm⟩ := hm
    refine wloop (σ := Int) (fun s a w => ∃ (ρ : Nat → Nat) (χ : Nat → Nat), I1 s ∧ St Try.f62.ntmps ⟨[(0, V (.slice a1 c_.length c1)), (1, V (.slice a2 m_.length c2)), (5, I s)], []⟩ ρ a w χ ∧ Old w0 χ0 w χ ∧ RS tI w χ a1 c_ c1 ∧ RS tBool w χ a2 m_ c2) (fun s => μ1 s) (0) ?_ ?_
    · exact ⟨ρ, _, hm0, hS.sel [0, 1, 5] [] (by kernel_rfl), hO, h1, h2⟩
    · rintro i_103 a w124 ⟨ρ, χ123, hI, hS, hO, h101, h102⟩
      replace hm := hm i_103 hI
      clear hI hm0
      refine wseq ?_
      refine regP T hS (sp := []) (ks := [0, 1, 5, 12]) (bs := []) (sy' := ⟨[(0, V (.slice a1 c_.length c1)), (1, V (.slice a2 m_.length c2)), (5, I i_103), (12, B (decide (i_103 < ((c_.length : Nat) : Int))))], []⟩) (by kernel_rfl) ?_
      intro a hS
      refine wcond hS (b := decide (i_103 < ((c_.length : Nat) : Int))) (by kernel_rfl) (fun hb => ?_) (fun hb => ?_)
      · replace hm := hm.1 hb
        refine wskip ?_
        refine wcut (fun a w => ∃ (ρ : Nat → Nat) (χ : Nat → Nat), VC62_J2 I1 μ1 i_103 ∧ St Try.f62.ntmps ⟨[(0, V (.slice a1 c_.length c1)), (1, V (.slice a2 m_.length c2)), (5, I i_103)], []⟩ ρ a w χ ∧ Old w0 χ0 w χ ∧ RS tI w χ a1 c_ c1 ∧ RS tBool w χ a2 m_ c2) ?_ ?_
        · refine wblock ?_
          refine regO ?_
          refine opsP T hS 2 (sp := []) (ks := [0, 1, 5, 16, 17]) (bs := []) (sy' := ⟨[(0, V (.slice a1 c_.length c1)), (1, V (.slice a2 m_.length c2)), (5, I i_103), (16, V (.slice a1 c_.length c1)), (17, I i_103)], []⟩) (by kernel_rfl) ?_
          intro a hS
          obtain ⟨hq, hm⟩ := hm
          refine op1 (index (e := 3) (k := .i64) T hS (by kernel_rfl) (by kernel_rfl) (by kernel_rfl) (by kernel_rfl) h101 (by kernel_rfl) (by kernel_rfl) hq.1 hq.2 ?_)
          intro A106 a h107 hS
          clear hq
          refine op1 (load1 T hS (by kernel_rfl) (by kernel_rfl) (by kernel_rfl) h107 rfl (by kernel_rfl) ?_)
          intro v108 a hv hS
          cases hv
          refine op1 (call hS (by kernel_rfl) (by kernel_rfl) hb79 (by kernel_rfl) (fun _ _ => rfl) (k79 _ _ (gi c_ i_103)) ?_)
          intro v109 a w110 χ111 hE hp hS
          replace hO := hO.mv hE rfl rfl
          replace h101 := h101.mv hE rfl
          replace h102 := h102.mv hE rfl
          replace h107 := h107.mv hE rfl
          clear hE
          obtain ⟨r112, hr⟩ : ∃ r, ref01_Split (gi c_ i_103) = r := ⟨_, rfl⟩
          replace hm := hm r112 hr
          rw [hr] at hp
          clear hr
          subst hp
          refine endP T hS (sp := []) (ks := [0, 1, 5, 6, 7]) (bs := []) (sy' := ⟨[(0, V (.slice a1 c_.length c1)), (1, V (.slice a2 m_.length c2)), (5, I i_103), (6, I r112.1), (7, B r112.2)], []⟩) (by kernel_rfl) ?_
          intro a hS
          refine wseq ?_
          refine regP T hS (sp := []) (ks := [0, 1, 5, 6, 7, 24]) (bs := []) (sy' := ⟨[(0, V (.slice a1 c_.length c1)), (1, V (.slice a2 m_.length c2)), (5, I i_103), (6, I r112.1), (7, B r112.2), (24, B (r112.1 == 0))], []⟩) (by kernel_rfl) ?_
          intro a hS
          refine wcond hS (b := (r112.1 == 0)) (by kernel_rfl) (fun hb => ?_) (fun hb => ?_)
          · replace hm := hm.1 hb
            refine wexit (by rfl) ?_
            exact ⟨ρ, _, hm, hS.sel [0, 1, 5] [] (by kernel_rfl), hO, h101, h102⟩
          · replace hm := hm.2 hb
            refine wskip ?_
            refine wcut (fun a w => ∃ (ρ : Nat → Nat) (χ : Nat → Nat) (is_115 : Bool), VC62_J3 Q I1 μ1 i_103 r112 is_115 ∧ St Try.f62.ntmps ⟨[(0, V (.slice a1 c_.length c1)), (1, V (.slice a2 m_.length c2)), (5, I i_103), (7, B r112.2), (8, B is_115)], []⟩ ρ a w χ ∧ Old w0 χ0 w χ ∧ RS tI w χ a1 c_ c1 ∧ RS tBool w χ a2 m_ c2) ?_ ?_
            · refine region ?_
              refine opsP T hS 5 (sp := []) (ks := [0, 1, 5, 6, 7, 29]) (bs := []) (sy' := ⟨[(0, V (.slice a1 c_.length c1)), (1, V (.slice a2 m_.length c2)), (5, I i_103), (6, I r112.1), (7, B r112.2), (29, B (decide (r112.1 ≤ ((m_.length : Nat) : Int))))], []⟩) (by kernel_rfl) ?_
              intro a hS
              rcases Bool.eq_false_or_eq_true (decide (r112.1 ≤ ((m_.length : Nat) : Int))) with hb | hb
              · replace hS := hS.lit (t := 29) (by kernel_rfl) hb
                replace hm := hm.1 hb
                refine opsP T hS 3 (sp := []) (ks := [0, 1, 5, 7, 29, 30, 31, 32]) (bs := []) (sy' := ⟨[(0, V (.slice a1 c_.length c1)), (1, V (.slice a2 m_.length c2)), (5, I i_103), (7, B r112.2), (29, B true), (30, V (.slice a2 m_.length c2)), (31, I r112.1), (32, I (IntKind.i64.wrap (r112.1 - 1)))], []⟩) (by kernel_rfl) ?_
                intro a hS
                obtain ⟨hq, hm⟩ := hm
                refine op1 (index (e := 4) (k := .i64) T hS (by kernel_rfl) (by kernel_rfl) (by kernel_rfl) (by kernel_rfl) h102 (by kernel_rfl) (by kernel_rfl) hq.1 hq.2 ?_)
                intro A116 a h117 hS
                clear hq
                refine op1 (load1 T hS (by kernel_rfl) (by kernel_rfl) (by kernel_rfl) h117 rfl (by kernel_rfl) ?_)
                intro v118 a hv hS
                cases hv
                refine endP T hS (sp := []) (ks := [0, 1, 5, 7, 8, 30, 31, 32, 33, 34]) (bs := []) (sy' := ⟨[(0, V (.slice a1 c_.length c1)), (1, V (.slice a2 m_.length c2)), (5, I i_103), (7, B r112.2), (8, B (gi m_ (IntKind.i64.wrap (r112.1 - 1)))), (30, V (.slice a2 m_.length c2)), (31, I r112.1), (32, I (IntKind.i64.wrap (r112.1 - 1))), (33, V (.pointer (some A116))), (34, B (gi m_ (IntKind.i64.wrap (r112.1 - 1))))], []⟩) (by kernel_rfl) ?_
                intro a hS
                exact ⟨ρ, _, gi m_ (IntKind.i64.wrap (r112.1 - 1)), hm, hS.sel [0, 1, 5, 7, 8] [] (by kernel_rfl), hO, h101, h102⟩
              · replace hS := hS.lit (t := 29) (by kernel_rfl) hb
                replace hm := hm.2 hb
                refine endP T hS (sp := []) (ks := [0, 1, 5, 7, 8]) (bs := []) (sy' := ⟨[(0, V (.slice a1 c_.length c1)), (1, V (.slice a2 m_.length c2)), (5, I i_103), (7, B r112.2), (8, B false)], []⟩) (by kernel_rfl) ?_
                intro a hS
                exact ⟨ρ, _, false, hm, hS.sel [0, 1, 5, 7, 8] [] (by kernel_rfl), hO, h101, h102⟩
            · rintro a w120 ⟨ρ, χ119, is_115, hm, hS, hO, h113, h114⟩
              unfold VC62_J3 at hm
              refine regP T hS (sp := []) (ks := [0, 1, 5, 38]) (bs := []) (sy' := ⟨[(0, V (.slice a1 c_.length c1)), (1, V (.slice a2 m_.length c2)), (5, I i_103), (38, B (is_115 == r112.2))], []⟩) (by kernel_rfl) ?_
              intro a hS
              refine wcond hS (b := (is_115 == r112.2)) (by kernel_rfl) (fun hb => ?_) (fun hb => ?_)
              · replace hm := hm.1 hb
                refine regP T hS (sp := []) (ks := [4]) (bs := []) (sy' := ⟨[(4, B true)], []⟩) (by kernel_rfl) ?_
                intro a hS
                refine wret ?_
                exact fin T hS hO (fun c => c) rfl (r := [.bool true]) (by kernel_rfl) (fun χ' hM hC => ⟨true, hm, rfl⟩)
              · replace hm := hm.2 hb
                refine wskip ?_
                exact ⟨ρ, _, hm, hS.sel [0, 1, 5] [] (by kernel_rfl), hO, h113, h114⟩
        · rintro a w122 ⟨ρ, χ121, hm, hS, hO, h104, h105⟩
          unfold VC62_J2 at hm
          refine region (endP T hS (sp := []) (ks := [0, 1, 5]) (bs := []) (sy' := ⟨[(0, V (.slice a1 c_.length c1)), (1, V (.slice a2 m_.length c2)), (5, I (IntKind.i64.wrap (i_103 + 1)))], []⟩) (by kernel_rfl) ?_)
          intro a hS
          exact ⟨IntKind.i64.wrap (i_103 + 1), ⟨ρ, _, hm.1, hS.sel [0, 1, 5] [] (by kernel_rfl), hO, h104, h105⟩, hm.2⟩
      · replace hm := hm.2 hb
        refine wexit (by rfl) ?_
        exact ⟨ρ, _, hm, hS.sel [] [] (by kernel_rfl), hO⟩
  · rintro a w126 ⟨ρ, χ125, hm, hS, hO⟩
    unfold VC62_J1 at hm
    refine regP T hS (sp := []) (ks := [4]) (bs := []) (sy' := ⟨[(4, B false)], []⟩) (by kernel_rfl) ?_
    intro a hS
    refine wret ?_
    exact fin T hS hO (fun c => c) rfl (r := [.bool false]) (by kernel_rfl) (fun χ' hM hC => ⟨false, hm, rfl⟩)
theorem C62 (k79 : S79) (v : ∀ (c_ : List Int) (m_ : List Bool), VC62 c_ m_ (fun r => r = ref02_Holds c_ m_)) : S62 := by
  intro w χ c_ m_ a1 c1 a2 c2   h1 h2
  refine (W62 k79 w χ c_ m_ a1 c1 a2 c2   _ (v c_ m_) h1 h2).mono ?_
  rintro _ _ _ _ ⟨r, rfl, h⟩
  exact h
def S36 : Prop := ∀ (w : World) (χ : Nat → Nat) (f_ : Api_Formula) (m_ : List Bool) (a1 : Option Addr) (c1 : Nat) (a2 : Option Addr) (c2 : Nat), RS (tSlice tI) w χ a1 f_.Clauses c1 → RS tBool w χ a2 m_ c2 → Ret Try.prog 36 #[.agg #[.int .i64 f_.Vars, .slice a1 f_.Clauses.length c1], .slice a2 m_.length c2] xnone w χ (fun w χ' v => v = .int .i64 (ref04_First f_ m_))
theorem hb36 : hasBody Try.prog 36 = true := by kernel_rfl
/-- replevin/replevinref04.First -/
theorem W36 (k62 : S62) (w0 : World) (χ0 : Nat → Nat) (f_ : Api_Formula) (m_ : List Bool) (a1 : Option Addr) (c1 : Nat) (a2 : Option Addr) (c2 : Nat) (Q : Int → Prop) (hm : VC36 f_ m_ Q) (h1 : RS (tSlice tI) w0 χ0 a1 f_.Clauses c1) (h2 : RS tBool w0 χ0 a2 m_ c2) :
    Ret Try.prog 36 #[.agg #[.int .i64 f_.Vars, .slice a1 f_.Clauses.length c1], .slice a2 m_.length c2] xnone w0 χ0 (fun w χ' v => ∃ r, Q r ∧ v = .int .i64 r) := by
  unfold VC36 at hm
  replace hm := hm (h1.sm (by kernel_rfl))
  replace hm := hm (h2.sm (by kernel_rfl))
  refine enter Try.func36 rfl (vals := [.agg #[.int .i64 f_.Vars, .slice a1 f_.Clauses.length c1], .slice a2 m_.length c2]) (by kernel_rfl) ?_
  intro ρ a hS hO hM
  replace h1 := h1.m0 hM
  replace h2 := h2.m0 hM
  clear hM
  refine regM T hS (sp := []) (ks := [1, 2]) (bs := [3]) (sy' := ⟨[(1, V (.slice a2 m_.length c2)), (2, Pt 3 0)], [(3, (58, [I f_.Vars, V (.slice a1 f_.Clauses.length c1)]))]⟩) (by kernel_rfl) ?_
  intro ρ a w118 χ119 hS hE hr
  replace hO := hO.mv hE rfl rfl
  replace h1 := h1.mv hE rfl
  replace h2 := h2.mv hE rfl
  clear hE hr
  refine wcut (fun a w => ∃ (ρ : Nat → Nat) (χ : Nat → Nat), VC36_J1 Q ∧ St Try.f36.ntmps ⟨[], []⟩ ρ a w χ ∧ Old w0 χ0 w χ) ?_ ?_
  · refine regP T hS (sp := []) (ks := [1, 2, 5]) (bs := [3]) (sy' := ⟨[(1, V (.slice a2 m_.length c2)), (2, Pt 3 0), (5, I 0)], [(3, (58, [I f_.Vars, V (.slice a1 f_.Clauses.length c1)]))]⟩) (by kernel_rfl) ?_
    intro a hS
    refine wblock ?_
    obtain ⟨I1, μ1, hm0, hm⟩ := hm
    refine wloop (σ := Int) (fun s a w => ∃ (ρ : Nat → Nat) (χ : Nat → Nat), I1 s ∧ St Try.f36.ntmps ⟨[(1, V (.slice a2 m_.length c2)), (2, Pt 3 0), (5, I s)], [(3, (58, [I f_.Vars, V (.slice a1 f_.Clauses.length c1)]))]⟩ ρ a w χ ∧ Old w0 χ0 w χ ∧ RS tBool w χ a2 m_ c2 ∧ RS (tSlice tI) w χ a1 f_.Clauses c1) (fun s => μ1 s) (0) ?_ ?_
    · exact ⟨ρ, _, hm0, hS.sel [1, 2, 5] [3] (by kernel_rfl), hO, h2, h1⟩
    · rintro i_102 a w115 ⟨ρ, χ114, hI, hS, hO, h101, h103⟩
      replace hm := hm i_102 hI
      clear hI hm0
      refine wseq ?_
      refine regP T hS (sp := []) (ks := [1, 2, 5, 10]) (bs := [3]) (sy' := ⟨[(1, V (.slice a2 m_.length c2)), (2, Pt 3 0), (5, I i_102), (10, B (decide (i_102 < ((f_.Clauses.length : Nat) : Int))))], [(3, (58, [I f_.Vars, V (.slice a1 f_.Clauses.length c1)]))]⟩) (by kernel_rfl) ?_
      intro a hS
      refine wcond hS (b := decide (i_102 < ((f_.Clauses.length : Nat) : Int))) (by kernel_rfl) (fun hb => ?_) (fun hb => ?_)
      · replace hm := hm.1 hb
        refine wskip ?_
        refine wseq ?_
        refine wblock ?_
        refine regO ?_
        refine opsP T hS 3 (sp := []) (ks := [1, 2, 5, 14, 15]) (bs := [3]) (sy' := ⟨[(1, V (.slice a2 m_.length c2)), (2, Pt 3 0), (5, I i_102), (14, V (.slice a1 f_.Clauses.length c1)), (15, I i_102)], [(3, (58, [I f_.Vars, V (.slice a1 f_.Clauses.length c1)]))]⟩) (by kernel_rfl) ?_
        intro a hS
        obtain ⟨hq, hm⟩ := hm
        refine op1 (index (e := 42) (k := .i64) T hS (by kernel_rfl) (by kernel_rfl) (by kernel_rfl) (by kernel_rfl) h103 (by kernel_rfl) (by kernel_rfl) hq.1 hq.2 ?_)
        intro A104 a h105 hS
        clear hq
        refine op1 (load1 T hS (by kernel_rfl) (by kernel_rfl) (by kernel_rfl) h105 rfl (by kernel_rfl) ?_)
        intro v106 a hv hS
        obtain ⟨a107, c108, hv, h109⟩ := hv
        cases hv
        replace hm := hm (h109.sm (by kernel_rfl))
        refine opsP T hS 1 (sp := []) (ks := [1, 2, 5, 17, 18]) (bs := [3]) (sy' := ⟨[(1, V (.slice a2 m_.length c2)), (2, Pt 3 0), (5, I i_102), (17, V (.slice a107 (gi f_.Clauses i_102).length c108)), (18, V (.slice a2 m_.length c2))], [(3, (58, [I f_.Vars, V (.slice a1 f_.Clauses.length c1)]))]⟩) (by kernel_rfl) ?_
        intro a hS
        refine op1 (call hS (by kernel_rfl) (by kernel_rfl) hb62 (by kernel_rfl) (fun _ _ => rfl) (k62 _ _ (gi f_.Clauses i_102) m_ a107 c108 a2 c2 h109 h101) ?_)
        intro v110 a w111 χ112 hE hp hS
        replace hO := hO.mv hE rfl rfl
        replace h101 := h101.mv hE rfl
        replace h103 := h103.mv hE rfl
        replace h109 := h109.mv hE rfl
        clear hE
        obtain ⟨r113, hr⟩ : ∃ r, ref02_Holds (gi f_.Clauses i_102) m_ = r := ⟨_, rfl⟩
        replace hm := hm r113 hr
        rw [hr] at hp
        clear hr
        subst hp
        refine endP T hS (sp := []) (ks := [1, 2, 5, 20]) (bs := [3]) (sy' := ⟨[(1, V (.slice a2 m_.length c2)), (2, Pt 3 0), (5, I i_102), (20, B (!r113))], [(3, (58, [I f_.Vars, V (.slice a1 f_.Clauses.length c1)]))]⟩) (by kernel_rfl) ?_
        intro a hS
        refine wcond hS (b := (!r113)) (by kernel_rfl) (fun hb => ?_) (fun hb => ?_)
        · replace hm := hm.1 hb
          refine regP T hS (sp := []) (ks := [4]) (bs := []) (sy' := ⟨[(4, I i_102)], []⟩) (by kernel_rfl) ?_
          intro a hS
          refine wret ?_
          exact fin T hS hO (fun c => c) rfl (r := [.int .i64 i_102]) (by kernel_rfl) (fun χ' hM hC => ⟨i_102, hm, rfl⟩)
        · replace hm := hm.2 hb
          refine wskip ?_
          refine region (endP T hS (sp := []) (ks := [1, 2, 5]) (bs := [3]) (sy' := ⟨[(1, V (.slice a2 m_.length c2)), (2, Pt 3 0), (5, I (IntKind.i64.wrap (i_102 + 1)))], [(3, (58, [I f_.Vars, V (.slice a1 f_.Clauses.length c1)]))]⟩) (by kernel_rfl) ?_)
          intro a hS
          exact ⟨IntKind.i64.wrap (i_102 + 1), ⟨ρ, _, hm.1, hS.sel [1, 2, 5] [3] (by kernel_rfl), hO, h101, h103⟩, hm.2⟩
      · replace hm := hm.2 hb
        refine wexit (by rfl) ?_
        exact ⟨ρ, _, hm, hS.sel [] [] (by kernel_rfl), hO⟩
  · rintro a w117 ⟨ρ, χ116, hm, hS, hO⟩
    unfold VC36_J1 at hm
    refine regP T hS (sp := []) (ks := [4]) (bs := []) (sy' := ⟨[(4, I (-1))], []⟩) (by kernel_rfl) ?_
    intro a hS
    refine wret ?_
    exact fin T hS hO (fun c => c) rfl (r := [.int .i64 (-1)]) (by kernel_rfl) (fun χ' hM hC => ⟨(-1), hm, rfl⟩)
theorem C36 (k62 : S62) (v : ∀ (f_ : Api_Formula) (m_ : List Bool), VC36 f_ m_ (fun r => r = ref04_First f_ m_)) : S36 := by
  intro w χ f_ m_ a1 c1 a2 c2   h1 h2
  refine (W36 k62 w χ f_ m_ a1 c1 a2 c2   _ (v f_ m_) h1 h2).mono ?_
  rintro _ _ _ _ ⟨r, rfl, h⟩
  exact h
def S26 : Prop := ∀ (w : World) (χ : Nat → Nat), Ret Try.prog 26 #[] xnone w χ (fun w χ' v => v = .bool law34_awake)
theorem hb26 : hasBody Try.prog 26 = true := by kernel_rfl
/-- replevin/replevinlaw34.awake -/
theorem W26 (k27 : S27) (k29 : S29) (k31 : S31) (k32 : S32) (k34 : S34) (k35 : S35) (w0 : World) (χ0 : Nat → Nat) (Q : Bool → Prop) (hm : VC26 Q) :
    Ret Try.prog 26 #[] xnone w0 χ0 (fun w χ' v => ∃ r, Q r ∧ v = .bool r) := by
  unfold VC26 at hm
  refine enter Try.func26 rfl (vals := []) (by kernel_rfl) ?_
  intro ρ a hS hO hM
  clear hM
  refine regP T hS (sp := []) (ks := []) (bs := []) (sy' := ⟨[], []⟩) (by kernel_rfl) ?_
  intro a hS
  refine regM T hS (sp := []) (ks := [1]) (bs := [2]) (sy' := ⟨[(1, Pt 2 0)], [(2, (23, [I 0, I 2]))]⟩) (by kernel_rfl) ?_
  intro ρ a w195 χ196 hS hE hr
  replace hO := hO.mv hE rfl rfl
  clear hE hr
  refine regO ?_
  refine opsP T hS 1 (sp := []) (ks := [1, 12]) (bs := [2]) (sy' := ⟨[(1, Pt 2 0), (12, V (.agg #[.int .i64 0, .int .i64 2]))], [(2, (23, [I 0, I 2]))]⟩) (by kernel_rfl) ?_
  intro a hS
  refine op1 (lit (E := 4) (col := 0) (T := tBool) (vals := [.bool false, .bool true]) (ys := [false, true]) T hS (by kernel_rfl) (by kernel_rfl) (by kernel_rfl) (by kernel_rfl) (by exact ⟨rfl, rfl, trivial⟩) rfl (by kernel_rfl) (by kernel_rfl) (by kernel_rfl) (by kernel_rfl) ?_)
  intro b101 a w102 χ103 hE h104 hN hS
  clear hN
  replace hO := hO.mv hE rfl rfl
  clear hE
  replace h104 := h104.rs0
  refine op1 (call hS (by kernel_rfl) (by kernel_rfl) hb27 (by kernel_rfl) (fun _ _ => rfl) (k27 _ _ (⟨0, 2⟩ : Numbering_Size) [false, true] (some ⟨b101, 0, none⟩) 2 h104) ?_)
  intro v105 a w106 χ107 hE hp hS
  replace hO := hO.mv hE rfl rfl
  replace h104 := h104.mv hE rfl
  clear hE
  obtain ⟨a109, c110, hp, h111⟩ := hp
  obtain ⟨r108, hr⟩ : ∃ r, states_Row (⟨0, 2⟩ : Numbering_Size) [false, true] = r := ⟨_, rfl⟩
  replace hm := hm r108 hr
  rw [hr] at hp h111
  clear hr
  subst hp
  replace hm := hm (h111.sm (by kernel_rfl))
  refine endP T hS (sp := []) (ks := [1, 2, 3]) (bs := [2]) (sy' := ⟨[(1, Pt 2 0), (2, V (.slice a109 r108.1.length c110)), (3, B r108.2)], [(2, (23, [I 0, I 2]))]⟩) (by kernel_rfl) ?_
  intro a hS
  refine regO ?_
  refine opsP T hS 1 (sp := []) (ks := [1, 2, 3, 18]) (bs := [2]) (sy' := ⟨[(1, Pt 2 0), (2, V (.slice a109 r108.1.length c110)), (3, B r108.2), (18, V (.agg #[.int .i64 0, .int .i64 2]))], [(2, (23, [I 0, I 2]))]⟩) (by kernel_rfl) ?_
  intro a hS
  refine op1 (lit (E := 4) (col := 0) (T := tBool) (vals := [.bool true, .bool true]) (ys := [true, true]) T hS (by kernel_rfl) (by kernel_rfl) (by kernel_rfl) (by kernel_rfl) (by exact ⟨rfl, rfl, trivial⟩) rfl (by kernel_rfl) (by kernel_rfl) (by kernel_rfl) (by kernel_rfl) ?_)
  intro b112 a w113 χ114 hE h115 hN hS
  clear hN
  replace hO := hO.mv hE rfl rfl
  replace h111 := h111.mv hE rfl
  clear hE
  replace h115 := h115.rs0
  refine op1 (call hS (by kernel_rfl) (by kernel_rfl) hb27 (by kernel_rfl) (fun _ _ => rfl) (k27 _ _ (⟨0, 2⟩ : Numbering_Size) [true, true] (some ⟨b112, 0, none⟩) 2 h115) ?_)
  intro v116 a w117 χ118 hE hp hS
  replace hO := hO.mv hE rfl rfl
  replace h111 := h111.mv hE rfl
  replace h115 := h115.mv hE rfl
  clear hE
  obtain ⟨a120, c121, hp, h122⟩ := hp
  obtain ⟨r119, hr⟩ : ∃ r, states_Row (⟨0, 2⟩ : Numbering_Size) [true, true] = r := ⟨_, rfl⟩
  replace hm := hm r119 hr
  rw [hr] at hp h122
  clear hr
  subst hp
  replace hm := hm (h122.sm (by kernel_rfl))
  refine endP T hS (sp := []) (ks := [1, 2, 3, 5]) (bs := [2]) (sy' := ⟨[(1, Pt 2 0), (2, V (.slice a109 r108.1.length c110)), (3, B r108.2), (5, B r119.2)], [(2, (23, [I 0, I 2]))]⟩) (by kernel_rfl) ?_
  intro a hS
  refine regO ?_
  refine opsP T hS 1 (sp := []) (ks := [1, 2, 3, 5, 24]) (bs := [2]) (sy' := ⟨[(1, Pt 2 0), (2, V (.slice a109 r108.1.length c110)), (3, B r108.2), (5, B r119.2), (24, V (.agg #[.int .i64 0, .int .i64 2]))], [(2, (23, [I 0, I 2]))]⟩) (by kernel_rfl) ?_
  intro a hS
  refine op1 (lit (E := 3) (col := 0) (T := tI) (vals := [.int .i64 1]) (ys := [1]) T hS (by kernel_rfl) (by kernel_rfl) (by kernel_rfl) (by kernel_rfl) (by exact ⟨rfl, trivial⟩) rfl (by kernel_rfl) (by kernel_rfl) (by kernel_rfl) (by kernel_rfl) ?_)
  intro b123 a w124 χ125 hE h126 hN hS
  clear hN
  replace hO := hO.mv hE rfl rfl
  replace h111 := h111.mv hE rfl
  clear hE
  replace h126 := h126.rs0
  refine op1 (call hS (by kernel_rfl) (by kernel_rfl) hb29 (by kernel_rfl) (fun _ _ => rfl) (k29 _ _ (⟨0, 2⟩ : Numbering_Size) [1] (some ⟨b123, 0, none⟩) 1 h126) ?_)
  intro v127 a w128 χ129 hE hp hS
  replace hO := hO.mv hE rfl rfl
  replace h111 := h111.mv hE rfl
  replace h126 := h126.mv hE rfl
  clear hE
  obtain ⟨a131, c132, hp, h133⟩ := hp
  obtain ⟨r130, hr⟩ : ∃ r, states_Truths (⟨0, 2⟩ : Numbering_Size) [1] = r := ⟨_, rfl⟩
  replace hm := hm r130 hr
  rw [hr] at hp h133
  clear hr
  subst hp
  replace hm := hm (h133.sm (by kernel_rfl))
  refine endP T hS (sp := []) (ks := [1, 2, 3, 5, 6, 7]) (bs := [2]) (sy' := ⟨[(1, Pt 2 0), (2, V (.slice a109 r108.1.length c110)), (3, B r108.2), (5, B r119.2), (6, V (.slice a131 r130.1.length c132)), (7, B r130.2)], [(2, (23, [I 0, I 2]))]⟩) (by kernel_rfl) ?_
  intro a hS
  refine regO ?_
  refine opsP T hS 1 (sp := []) (ks := [1, 2, 3, 5, 6, 7, 30]) (bs := [2]) (sy' := ⟨[(1, Pt 2 0), (2, V (.slice a109 r108.1.length c110)), (3, B r108.2), (5, B r119.2), (6, V (.slice a131 r130.1.length c132)), (7, B r130.2), (30, V (.agg #[.int .i64 0, .int .i64 2]))], [(2, (23, [I 0, I 2]))]⟩) (by kernel_rfl) ?_
  intro a hS
  refine op1 (lit (E := 3) (col := 0) (T := tI) (vals := [.int .i64 2]) (ys := [2]) T hS (by kernel_rfl) (by kernel_rfl) (by kernel_rfl) (by kernel_rfl) (by exact ⟨rfl, trivial⟩) rfl (by kernel_rfl) (by kernel_rfl) (by kernel_rfl) (by kernel_rfl) ?_)
  intro b134 a w135 χ136 hE h137 hN hS
  clear hN
  replace hO := hO.mv hE rfl rfl
  replace h111 := h111.mv hE rfl
  replace h133 := h133.mv hE rfl
  clear hE
  replace h137 := h137.rs0
  refine op1 (call hS (by kernel_rfl) (by kernel_rfl) hb29 (by kernel_rfl) (fun _ _ => rfl) (k29 _ _ (⟨0, 2⟩ : Numbering_Size) [2] (some ⟨b134, 0, none⟩) 1 h137) ?_)
  intro v138 a w139 χ140 hE hp hS
  replace hO := hO.mv hE rfl rfl
  replace h111 := h111.mv hE rfl
  replace h133 := h133.mv hE rfl
  replace h137 := h137.mv hE rfl
  clear hE
  obtain ⟨a142, c143, hp, h144⟩ := hp
  obtain ⟨r141, hr⟩ : ∃ r, states_Truths (⟨0, 2⟩ : Numbering_Size) [2] = r := ⟨_, rfl⟩
  replace hm := hm r141 hr
  rw [hr] at hp h144
  clear hr
  subst hp
  replace hm := hm (h144.sm (by kernel_rfl))
  refine endP T hS (sp := []) (ks := [1, 2, 3, 5, 6, 7, 9]) (bs := [2]) (sy' := ⟨[(1, Pt 2 0), (2, V (.slice a109 r108.1.length c110)), (3, B r108.2), (5, B r119.2), (6, V (.slice a131 r130.1.length c132)), (7, B r130.2), (9, B r141.2)], [(2, (23, [I 0, I 2]))]⟩) (by kernel_rfl) ?_
  intro a hS
  refine regO ?_
  refine opsP T hS 1 (sp := []) (ks := [1, 2, 3, 5, 6, 7, 9, 35]) (bs := [2]) (sy' := ⟨[(1, Pt 2 0), (2, V (.slice a109 r108.1.length c110)), (3, B r108.2), (5, B r119.2), (6, V (.slice a131 r130.1.length c132)), (7, B r130.2), (9, B r141.2), (35, V (.agg #[.int .i64 0, .int .i64 2]))], [(2, (23, [I 0, I 2]))]⟩) (by kernel_rfl) ?_
  intro a hS
  refine op1 (call hS (by kernel_rfl) (by kernel_rfl) hb32 (by kernel_rfl) (fun _ _ => rfl) (k32 _ _ (⟨0, 2⟩ : Numbering_Size) 1) ?_)
  intro v145 a w146 χ147 hE hp hS
  replace hO := hO.mv hE rfl rfl
  replace h111 := h111.mv hE rfl
  replace h133 := h133.mv hE rfl
  clear hE
  obtain ⟨a149, c150, hp, h151⟩ := hp
  obtain ⟨r148, hr⟩ : ∃ r, states_Clauses (⟨0, 2⟩ : Numbering_Size) 1 = r := ⟨_, rfl⟩
  replace hm := hm r148 hr
  rw [hr] at hp h151
  clear hr
  subst hp
  replace hm := hm (h151.sm (by kernel_rfl))
  refine op1 (lit (E := 3) (col := 0) (T := tI) (vals := [.int .i64 2]) (ys := [2]) T hS (by kernel_rfl) (by kernel_rfl) (by kernel_rfl) (by kernel_rfl) (by exact ⟨rfl, trivial⟩) rfl (by kernel_rfl) (by kernel_rfl) (by kernel_rfl) (by kernel_rfl) ?_)
  intro b152 a w153 χ154 hE h155 hN hS
  clear hN
  replace hO := hO.mv hE rfl rfl
  replace h111 := h111.mv hE rfl
  replace h133 := h133.mv hE rfl
  replace h151 := h151.mv hE rfl
  clear hE
  replace h155 := h155.rs0
  refine op1 (lit (E := 3) (col := 0) (T := tI) (vals := [.int .i64 1, .int .i64 2]) (ys := [1, 2]) T hS (by kernel_rfl) (by kernel_rfl) (by kernel_rfl) (by kernel_rfl) (by exact ⟨rfl, rfl, trivial⟩) rfl (by kernel_rfl) (by kernel_rfl) (by kernel_rfl) (by kernel_rfl) ?_)
  intro b156 a w157 χ158 hE h159 hN hS
  clear hN
  replace hO := hO.mv hE rfl rfl
  replace h111 := h111.mv hE rfl
  replace h133 := h133.mv hE rfl
  replace h151 := h151.mv hE rfl
  replace h155 := h155.mv hE rfl
  clear hE
  replace h159 := h159.rs0
  refine op1 (lit (E := 3) (col := 0) (T := tI) (vals := [.int .i64 (-1), .int .i64 (-2)]) (ys := [(-1), (-2)]) T hS (by kernel_rfl) (by kernel_rfl) (by kernel_rfl) (by kernel_rfl) (by exact ⟨rfl, rfl, trivial⟩) rfl (by kernel_rfl) (by kernel_rfl) (by kernel_rfl) (by kernel_rfl) ?_)
  intro b160 a w161 χ162 hE h163 hN hS
  clear hN
  replace hO := hO.mv hE rfl rfl
  replace h111 := h111.mv hE rfl
  replace h133 := h133.mv hE rfl
  replace h151 := h151.mv hE rfl
  replace h155 := h155.mv hE rfl
  replace h159 := h159.mv hE rfl
  clear hE
  replace h163 := h163.rs0
  refine op1 (lit (E := 42) (col := 0) (T := (tSlice tI)) (vals := [.slice (some ⟨b152, 0, none⟩) [2].length 1, .slice (some ⟨b156, 0, none⟩) [1, 2].length 2, .slice (some ⟨b160, 0, none⟩) [(-1), (-2)].length 2]) (ys := [[2], [1, 2], [(-1), (-2)]]) T hS (by kernel_rfl) (by kernel_rfl) (by kernel_rfl) (by kernel_rfl) (by exact ⟨⟨(some ⟨b152, 0, none⟩), 1, rfl, h155⟩, ⟨(some ⟨b156, 0, none⟩), 2, rfl, h159⟩, ⟨(some ⟨b160, 0, none⟩), 2, rfl, h163⟩, trivial⟩) rfl (by kernel_rfl) (by kernel_rfl) (by kernel_rfl) (by kernel_rfl) ?_)
  intro b164 a w165 χ166 hE h167 hN hS
  clear hN
  replace hO := hO.mv hE rfl rfl
  replace h111 := h111.mv hE rfl
  replace h133 := h133.mv hE rfl
  replace h151 := h151.mv hE rfl
  replace h155 := h155.mv hE rfl
  replace h159 := h159.mv hE rfl
  replace h163 := h163.mv hE rfl
  clear hE
  replace h167 := h167.rs0
  refine op1 (call hS (by kernel_rfl) (by kernel_rfl) hb31 (by kernel_rfl) (fun _ _ => rfl) (k31 _ _ r148 [[2], [1, 2], [(-1), (-2)]] a149 c150 (some ⟨b164, 0, none⟩) 3 h151 h167) ?_)
  intro v168 a w169 χ170 hE hp hS
  replace hO := hO.mv hE rfl rfl
  replace h111 := h111.mv hE rfl
  replace h133 := h133.mv hE rfl
  replace h151 := h151.mv hE rfl
  replace h155 := h155.mv hE rfl
  replace h159 := h159.mv hE rfl
  replace h163 := h163.mv hE rfl
  replace h167 := h167.mv hE rfl
  clear hE
  obtain ⟨r171, hr⟩ : ∃ r, ref04_SameRows r148 [[2], [1, 2], [(-1), (-2)]] = r := ⟨_, rfl⟩
  replace hm := hm r171 hr
  rw [hr] at hp
  clear hr
  subst hp
  refine opsP T hS 4 (sp := [42]) (ks := [1, 2, 5, 6, 7, 9, 45]) (bs := [2]) (sy' := ⟨[(1, Pt 2 0), (2, V (.slice a109 r108.1.length c110)), (5, B r119.2), (6, V (.slice a131 r130.1.length c132)), (7, B r130.2), (9, B r141.2), (45, B (r171 && r108.2))], [(2, (23, [I 0, I 2]))]⟩) (by kernel_rfl) ?_
  intro a hS
  rcases Bool.eq_false_or_eq_true (r171 && r108.2) with hb | hb
  · replace hS := hS.lit (t := 45) (by kernel_rfl) hb
    replace hm := hm.1 hb
    refine opsP T hS 1 (sp := []) (ks := [1, 5, 6, 7, 9, 45, 46]) (bs := [2]) (sy' := ⟨[(1, Pt 2 0), (5, B r119.2), (6, V (.slice a131 r130.1.length c132)), (7, B r130.2), (9, B r141.2), (45, B true), (46, V (.slice a109 r108.1.length c110))], [(2, (23, [I 0, I 2]))]⟩) (by kernel_rfl) ?_
    intro a hS
    refine op1 (lit (E := 3) (col := 0) (T := tI) (vals := [.int .i64 1]) (ys := [1]) T hS (by kernel_rfl) (by kernel_rfl) (by kernel_rfl) (by kernel_rfl) (by exact ⟨rfl, trivial⟩) rfl (by kernel_rfl) (by kernel_rfl) (by kernel_rfl) (by kernel_rfl) ?_)
    intro b172 a w173 χ174 hE h175 hN hS
    clear hN
    replace hO := hO.mv hE rfl rfl
    replace h111 := h111.mv hE rfl
    replace h133 := h133.mv hE rfl
    clear hE
    replace h175 := h175.rs0
    refine op1 (call hS (by kernel_rfl) (by kernel_rfl) hb34 (by kernel_rfl) (fun _ _ => rfl) (k34 _ _ r108.1 [1] a109 c110 (some ⟨b172, 0, none⟩) 1 h111 h175) ?_)
    intro v176 a w177 χ178 hE hp hS
    replace hO := hO.mv hE rfl rfl
    replace h111 := h111.mv hE rfl
    replace h133 := h133.mv hE rfl
    replace h175 := h175.mv hE rfl
    clear hE
    obtain ⟨r179, hr⟩ : ∃ r, ref01_SameInts r108.1 [1] = r := ⟨_, rfl⟩
    replace hm := hm r179 hr
    rw [hr] at hp
    clear hr
    subst hp
    refine opsP T hS 9 (sp := [50, 54]) (ks := [1, 6, 9, 57]) (bs := [2]) (sy' := ⟨[(1, Pt 2 0), (6, V (.slice a131 r130.1.length c132)), (9, B r141.2), (57, B ((r179 && (!r119.2)) && r130.2))], [(2, (23, [I 0, I 2]))]⟩) (by kernel_rfl) ?_
    intro a hS
    rcases Bool.eq_false_or_eq_true ((r179 && (!r119.2)) && r130.2) with hb | hb
    · replace hS := hS.lit (t := 57) (by kernel_rfl) hb
      replace hm := hm.1 hb
      refine opsP T hS 1 (sp := []) (ks := [1, 9, 57, 58]) (bs := [2]) (sy' := ⟨[(1, Pt 2 0), (9, B r141.2), (57, B true), (58, V (.slice a131 r130.1.length c132))], [(2, (23, [I 0, I 2]))]⟩) (by kernel_rfl) ?_
      intro a hS
      refine op1 (lit (E := 4) (col := 0) (T := tBool) (vals := [.bool false, .bool true]) (ys := [false, true]) T hS (by kernel_rfl) (by kernel_rfl) (by kernel_rfl) (by kernel_rfl) (by exact ⟨rfl, rfl, trivial⟩) rfl (by kernel_rfl) (by kernel_rfl) (by kernel_rfl) (by kernel_rfl) ?_)
      intro b180 a w181 χ182 hE h183 hN hS
      clear hN
      replace hO := hO.mv hE rfl rfl
      replace h133 := h133.mv hE rfl
      clear hE
      replace h183 := h183.rs0
      refine op1 (call hS (by kernel_rfl) (by kernel_rfl) hb35 (by kernel_rfl) (fun _ _ => rfl) (k35 _ _ r130.1 [false, true] a131 c132 (some ⟨b180, 0, none⟩) 2 h133 h183) ?_)
      intro v184 a w185 χ186 hE hp hS
      replace hO := hO.mv hE rfl rfl
      replace h133 := h133.mv hE rfl
      replace h183 := h183.mv hE rfl
      clear hE
      obtain ⟨r187, hr⟩ : ∃ r, ref03_SameBools r130.1 [false, true] = r := ⟨_, rfl⟩
      replace hm := hm r187 hr
      rw [hr] at hp
      clear hr
      subst hp
      refine opsP T hS 6 (sp := [62]) (ks := [1, 66]) (bs := [2]) (sy' := ⟨[(1, Pt 2 0), (66, B (r187 && (!r141.2)))], [(2, (23, [I 0, I 2]))]⟩) (by kernel_rfl) ?_
      intro a hS
      rcases Bool.eq_false_or_eq_true (r187 && (!r141.2)) with hb | hb
      · replace hS := hS.lit (t := 66) (by kernel_rfl) hb
        replace hm := hm.1 hb
        refine opsP T hS 1 (sp := []) (ks := [66, 67]) (bs := []) (sy' := ⟨[(66, B true), (67, V (.agg #[.int .i64 0, .int .i64 2]))], []⟩) (by kernel_rfl) ?_
        intro a hS
        refine op1 (call hS (by kernel_rfl) (by kernel_rfl) hb32 (by kernel_rfl) (fun _ _ => rfl) (k32 _ _ (⟨0, 2⟩ : Numbering_Size) 2) ?_)
        intro v188 a w189 χ190 hE hp hS
        replace hO := hO.mv hE rfl rfl
        clear hE
        obtain ⟨a192, c193, hp, h194⟩ := hp
        obtain ⟨r191, hr⟩ : ∃ r, states_Clauses (⟨0, 2⟩ : Numbering_Size) 2 = r := ⟨_, rfl⟩
        replace hm := hm r191 hr
        rw [hr] at hp h194
        clear hr
        subst hp
        replace hm := hm (h194.sm (by kernel_rfl))
        refine endP T hS (sp := []) (ks := [0]) (bs := []) (sy' := ⟨[(0, B (((r191.length : Nat) : Int) == 0))], []⟩) (by kernel_rfl) ?_
        intro a hS
        refine wret ?_
        exact fin T hS hO (fun c => c) rfl (r := [.bool (((r191.length : Nat) : Int) == 0)]) (by kernel_rfl) (fun χ' hM hC => ⟨(((r191.length : Nat) : Int) == 0), hm, rfl⟩)
      · replace hS := hS.lit (t := 66) (by kernel_rfl) hb
        replace hm := hm.2 hb
        refine endP T hS (sp := []) (ks := [0]) (bs := []) (sy' := ⟨[(0, B false)], []⟩) (by kernel_rfl) ?_
        intro a hS
        refine wret ?_
        exact fin T hS hO (fun c => c) rfl (r := [.bool false]) (by kernel_rfl) (fun χ' hM hC => ⟨false, hm, rfl⟩)
    · replace hS := hS.lit (t := 57) (by kernel_rfl) hb
      replace hm := hm.2 hb
      refine endP T hS (sp := []) (ks := [0]) (bs := []) (sy' := ⟨[(0, B false)], []⟩) (by kernel_rfl) ?_
      intro a hS
      refine wret ?_
      exact fin T hS hO (fun c => c) rfl (r := [.bool false]) (by kernel_rfl) (fun χ' hM hC => ⟨false, hm, rfl⟩)
  · replace hS := hS.lit (t := 45) (by kernel_rfl) hb
    replace hm := hm.2 hb
    refine endP T hS (sp := []) (ks := [0]) (bs := []) (sy' := ⟨[(0, B false)], []⟩) (by kernel_rfl) ?_
    intro a hS
    refine wret ?_
    exact fin T hS hO (fun c => c) rfl (r := [.bool false]) (by kernel_rfl) (fun χ' hM hC => ⟨false, hm, rfl⟩)
theorem C26 (k27 : S27) (k29 : S29) (k31 : S31) (k32 : S32) (k34 : S34) (k35 : S35) (v : ∀ (_ : Unit), VC26 (fun r => r = law34_awake)) : S26 := by
  intro w χ     
  refine (W26 k27 k29 k31 k32 k34 k35 w χ     _ (v ())).mono ?_
  rintro _ _ _ _ ⟨r, rfl, h⟩
  exact h
end Go.Proofs.Ytlpcjbjlgeaapaa
