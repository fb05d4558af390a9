/- Walks: each function returns what its condition asks. Condition: the contracts of its callees, handed in. -/
import Derived.Test.YtnhdgebboafliaaWVC
import Derived.Test.YtnhdgebboafliaaWReps
set_option linter.all false
namespace Go.Proofs.Ytnhdgebboafliaa
open Go Go.Sv
set_option maxHeartbeats 1000000
def S12 : Prop := ∀ (w : World) (χ : Nat → Nat) (o_ : Api_Object) (a1 : Option Addr) (c1 : Nat), RS tApi_Row w χ a1 o_.Rows c1 → Ret Try.prog 12 #[.agg #[.int .i64 o_.States, .int .i64 o_.Kinds, .int .i64 o_.Init, .slice a1 o_.Rows.length c1]] xnone w χ (fun w χ' v => v = .bool (law23_Few o_))
theorem hb12 : hasBody Try.prog 12 = true := by kernel_rfl
/-- replevin/replevinlaw23.Few -/
theorem W12 (w0 : World) (χ0 : Nat → Nat) (o_ : Api_Object) (a1 : Option Addr) (c1 : Nat) (Q : Bool → Prop) (hm : VC12 o_ Q) (h1 : RS tApi_Row w0 χ0 a1 o_.Rows c1) :
    Ret Try.prog 12 #[.agg #[.int .i64 o_.States, .int .i64 o_.Kinds, .int .i64 o_.Init, .slice a1 o_.Rows.length c1]] xnone w0 χ0 (fun w χ' v => ∃ r, Q r ∧ v = .bool r) := by
  unfold VC12 at hm
  replace hm := hm (h1.sm (by kernel_rfl))
  refine enter Try.func12 rfl (vals := [.agg #[.int .i64 o_.States, .int .i64 o_.Kinds, .int .i64 o_.Init, .slice a1 o_.Rows.length c1]]) (by kernel_rfl) ?_
  intro ρ a hS hO hM
  replace h1 := h1.m0 hM
  clear hM
  refine regM T hS (sp := []) (ks := [1]) (bs := [2]) (sy' := ⟨[(1, Pt 2 0)], [(2, (24, [I o_.States, I o_.Kinds, I o_.Init, V (.slice a1 o_.Rows.length c1)]))]⟩) (by kernel_rfl) ?_
  intro ρ a w101 χ102 hS hE hr
  replace hO := hO.mv hE rfl rfl
  replace h1 := h1.mv hE rfl
  clear hE hr
  refine regP T hS (sp := []) (ks := [2]) (bs := []) (sy' := ⟨[(2, B (decide (((o_.Rows.length : Nat) : Int) ≤ 300)))], []⟩) (by kernel_rfl) ?_
  intro a hS
  refine wret ?_
  exact fin T hS hO (fun c => c) rfl (r := [.bool (decide (((o_.Rows.length : Nat) : Int) ≤ 300))]) (by kernel_rfl) (fun χ' hM hC => ⟨(decide (((o_.Rows.length : Nat) : Int) ≤ 300)), hm, rfl⟩)
theorem C12 (v : ∀ (o_ : Api_Object), VC12 o_ (fun r => r = law23_Few o_)) : S12 := by
  intro w χ o_ a1 c1   h1
  refine (W12 w χ o_ a1 c1   _ (v o_) h1).mono ?_
  rintro _ _ _ _ ⟨r, rfl, h⟩
  exact h
def S54 : Prop := ∀ (w : World) (χ : Nat → Nat) (n_ : Int) (top : Int), Ret Try.prog 54 #[.int .i64 n_, .int .i64 top] xnone w χ (fun w χ' v => v = .bool (object_within n_ top))
theorem hb54 : hasBody Try.prog 54 = true := by kernel_rfl
/-- replevin/object.within -/
theorem W54 (w0 : World) (χ0 : Nat → Nat) (n_ : Int) (top : Int) (Q : Bool → Prop) (hm : VC54 n_ top Q) :
    Ret Try.prog 54 #[.int .i64 n_, .int .i64 top] xnone w0 χ0 (fun w χ' v => ∃ r, Q r ∧ v = .bool r) := by
  unfold VC54 at hm
  refine enter Try.func54 rfl (vals := [.int .i64 n_, .int .i64 top]) (by kernel_rfl) ?_
  intro ρ a hS hO hM
  clear hM
  refine regP T hS (sp := []) (ks := [0, 1]) (bs := []) (sy' := ⟨[(0, I n_), (1, I top)], []⟩) (by kernel_rfl) ?_
  intro a hS
  refine regP T hS (sp := [7]) (ks := [4]) (bs := []) (sy' := ⟨[(4, B ((decide (n_ ≥ 0)) && (decide (n_ < top))))], []⟩) (by kernel_rfl) ?_
  intro a hS
  refine wret ?_
  exact fin T hS hO (fun c => c) rfl (r := [.bool ((decide (n_ ≥ 0)) && (decide (n_ < top)))]) (by kernel_rfl) (fun χ' hM hC => ⟨((decide (n_ ≥ 0)) && (decide (n_ < top))), hm, rfl⟩)
theorem C54 (v : ∀ (n_ : Int) (top : Int), VC54 n_ top (fun r => r = object_within n_ top)) : S54 := by
  intro w χ n_ top    
  refine (W54 w χ n_ top    _ (v n_ top)).mono ?_
  rintro _ _ _ _ ⟨r, rfl, h⟩
  exact h
def S81 : Prop := ∀ (w : World) (χ : Nat → Nat) (vals : List Int) (a1 : Option Addr) (c1 : Nat), RS tI w χ a1 vals c1 → Ret Try.prog 81 #[.slice a1 vals.length c1] xnone w χ (fun w χ' v => v = .int .i64 (cmp_Or_int vals))
theorem hb81 : hasBody Try.prog 81 = true := by kernel_rfl
/-- cmp.Or[int] -/
theorem W81 (w0 : World) (χ0 : Nat → Nat) (vals : List Int) (a1 : Option Addr) (c1 : Nat) (Q : Int → Prop) (hm : VC81 vals Q) (h1 : RS tI w0 χ0 a1 vals c1) :
    Ret Try.prog 81 #[.slice a1 vals.length c1] xnone w0 χ0 (fun w χ' v => ∃ r, Q r ∧ v = .int .i64 r) := by
  unfold VC81 at hm
  replace hm := hm (h1.sm (by kernel_rfl))
  refine enter Try.func81 rfl (vals := [.slice a1 vals.length c1]) (by kernel_rfl) ?_
  intro ρ a hS hO hM
  replace h1 := h1.m0 hM
  clear hM
  refine regP T hS (sp := []) (ks := [0]) (bs := []) (sy' := ⟨[(0, V (.slice a1 vals.length c1))], []⟩) (by kernel_rfl) ?_
  intro a hS
  refine regP T hS (sp := []) (ks := [0, 3]) (bs := []) (sy' := ⟨[(0, V (.slice a1 vals.length c1)), (3, I 0)], []⟩) (by kernel_rfl) ?_
  intro a hS
  refine wcut (fun a w => ∃ (ρ : Nat → Nat) (χ : Nat → Nat), VC81_J1 Q ∧ St Try.f81.ntmps ⟨[(3, I 0)], []⟩ ρ a w χ ∧ Old w0 χ0 w χ) ?_ ?_
  · refine regP T hS (sp := []) (ks := [3, 6, 7, 8]) (bs := []) (sy' := ⟨[(3, I 0), (6, V (.slice a1 vals.length c1)), (7, I ((vals.length : Nat) : Int)), (8, I 0)], []⟩) (by kernel_rfl) ?_
    intro a hS
    refine wblock ?_
    obtain ⟨I1, μ1, hm0, hm⟩ := hm
    refine wloop (σ := Int) (fun s a w => ∃ (ρ : Nat → Nat) (χ : Nat → Nat), I1 s ∧ St Try.f81.ntmps ⟨[(3, I 0), (6, V (.slice a1 vals.length c1)), (7, I ((vals.length : Nat) : Int)), (8, I s)], []⟩ ρ a w χ ∧ Old w0 χ0 w χ ∧ RS tI w χ a1 vals c1) (fun s => μ1 s) (0) ?_ ?_
    · exact ⟨ρ, _, hm0, hS.sel [3, 6, 7, 8] [] (by kernel_rfl), hO, h1⟩
    · rintro x_102 a w107 ⟨ρ, χ106, hI, hS, hO, h101⟩
      replace hm := hm x_102 hI
      clear hI hm0
      refine regP T hS (sp := []) (ks := [3, 6, 7, 8, 9]) (bs := []) (sy' := ⟨[(3, I 0), (6, V (.slice a1 vals.length c1)), (7, I ((vals.length : Nat) : Int)), (8, I x_102), (9, B (decide (x_102 < ((vals.length : Nat) : Int))))], []⟩) (by kernel_rfl) ?_
      intro a hS
      refine wseq ?_
      refine wcond hS (b := decide (x_102 < ((vals.length : Nat) : Int))) (by kernel_rfl) (fun hb => ?_) (fun hb => ?_)
      · replace hm := hm.1 hb
        refine wskip ?_
        refine wseq ?_
        refine wblock ?_
        refine regO ?_
        obtain ⟨hq, hm⟩ := hm
        refine op1 (index (e := 3) (k := .i64) T hS (by kernel_rfl) (by kernel_rfl) (by kernel_rfl) (by kernel_rfl) h101 (by kernel_rfl) (by kernel_rfl) hq.1 hq.2 ?_)
        intro A103 a h104 hS
        clear hq
        refine op1 (load1 T hS (by kernel_rfl) (by kernel_rfl) (by kernel_rfl) h104 rfl (by kernel_rfl) ?_)
        intro v105 a hv hS
        cases hv
        refine endP T hS (sp := []) (ks := [3, 5, 6, 7, 8]) (bs := []) (sy' := ⟨[(3, I 0), (5, I (gi vals x_102)), (6, V (.slice a1 vals.length c1)), (7, I ((vals.length : Nat) : Int)), (8, I x_102)], []⟩) (by kernel_rfl) ?_
        intro a hS
        refine regP T hS (sp := []) (ks := [3, 5, 6, 7, 8, 14]) (bs := []) (sy' := ⟨[(3, I 0), (5, I (gi vals x_102)), (6, V (.slice a1 vals.length c1)), (7, I ((vals.length : Nat) : Int)), (8, I x_102), (14, B ((gi vals x_102) != 0))], []⟩) (by kernel_rfl) ?_
        intro a hS
        refine wcond hS (b := ((gi vals x_102) != 0)) (by kernel_rfl) (fun hb => ?_) (fun hb => ?_)
        · replace hm := hm.1 hb
          refine regP T hS (sp := []) (ks := [2]) (bs := []) (sy' := ⟨[(2, I (gi vals x_102))], []⟩) (by kernel_rfl) ?_
          intro a hS
          refine wret ?_
          exact fin T hS hO (fun c => c) rfl (r := [.int .i64 (gi vals x_102)]) (by kernel_rfl) (fun χ' hM hC => ⟨(gi vals x_102), hm, rfl⟩)
        · replace hm := hm.2 hb
          refine wskip ?_
          refine region (endP T hS (sp := []) (ks := [3, 6, 7, 8]) (bs := []) (sy' := ⟨[(3, I 0), (6, V (.slice a1 vals.length c1)), (7, I ((vals.length : Nat) : Int)), (8, I (IntKind.i64.wrap (x_102 + 1)))], []⟩) (by kernel_rfl) ?_)
          intro a hS
          exact ⟨IntKind.i64.wrap (x_102 + 1), ⟨ρ, _, hm.1, hS.sel [3, 6, 7, 8] [] (by kernel_rfl), hO, h101⟩, hm.2⟩
      · replace hm := hm.2 hb
        refine wexit (by rfl) ?_
        exact ⟨ρ, _, hm, hS.sel [3] [] (by kernel_rfl), hO⟩
  · rintro a w109 ⟨ρ, χ108, hm, hS, hO⟩
    unfold VC81_J1 at hm
    refine regP T hS (sp := []) (ks := [2]) (bs := []) (sy' := ⟨[(2, I 0)], []⟩) (by kernel_rfl) ?_
    intro a hS
    refine wret ?_
    exact fin T hS hO (fun c => c) rfl (r := [.int .i64 0]) (by kernel_rfl) (fun χ' hM hC => ⟨0, hm, rfl⟩)
theorem C81 (v : ∀ (vals : List Int), VC81 vals (fun r => r = cmp_Or_int vals)) : S81 := by
  intro w χ vals a1 c1   h1
  refine (W81 w χ vals a1 c1   _ (v vals) h1).mono ?_
  rintro _ _ _ _ ⟨r, rfl, h⟩
  exact h
def S84 : Prop := ∀ (w : World) (χ : Nat → Nat) (x_ : Int), Ret Try.prog 84 #[.int .i64 x_] xnone w χ (fun w χ' v => v = .bool (cmp_isNaN_int x_))
theorem hb84 : hasBody Try.prog 84 = true := by kernel_rfl
/-- cmp.isNaN[int] -/
theorem W84 (w0 : World) (χ0 : Nat → Nat) (x_ : Int) (Q : Bool → Prop) (hm : VC84 x_ Q) :
    Ret Try.prog 84 #[.int .i64 x_] xnone w0 χ0 (fun w χ' v => ∃ r, Q r ∧ v = .bool r) := by
  unfold VC84 at hm
  refine enter Try.func84 rfl (vals := [.int .i64 x_]) (by kernel_rfl) ?_
  intro ρ a hS hO hM
  clear hM
  refine regP T hS (sp := []) (ks := [0]) (bs := []) (sy' := ⟨[(0, I x_)], []⟩) (by kernel_rfl) ?_
  intro a hS
  refine regP T hS (sp := []) (ks := [2]) (bs := []) (sy' := ⟨[(2, B (x_ != x_))], []⟩) (by kernel_rfl) ?_
  intro a hS
  refine wret ?_
  exact fin T hS hO (fun c => c) rfl (r := [.bool (x_ != x_)]) (by kernel_rfl) (fun χ' hM hC => ⟨(x_ != x_), hm, rfl⟩)
theorem C84 (v : ∀ (x_ : Int), VC84 x_ (fun r => r = cmp_isNaN_int x_)) : S84 := by
  intro w χ x_    
  refine (W84 w χ x_    _ (v x_)).mono ?_
  rintro _ _ _ _ ⟨r, rfl, h⟩
  exact h
def S82 : Prop := ∀ (w : World) (χ : Nat → Nat) (x_ : Int) (y_ : Int), Ret Try.prog 82 #[.int .i64 x_, .int .i64 y_] xnone w χ (fun w χ' v => v = .int .i64 (cmp_Compare_int x_ y_))
theorem hb82 : hasBody Try.prog 82 = true := by kernel_rfl
/-- cmp.Compare[int] -/
theorem W82 (k84 : S84) (w0 : World) (χ0 : Nat → Nat) (x_ : Int) (y_ : Int) (Q : Int → Prop) (hm : VC82 x_ y_ Q) :
    Ret Try.prog 82 #[.int .i64 x_, .int .i64 y_] xnone w0 χ0 (fun w χ' v => ∃ r, Q r ∧ v = .int .i64 r) := by
  unfold VC82 at hm
  refine enter Try.func82 rfl (vals := [.int .i64 x_, .int .i64 y_]) (by kernel_rfl) ?_
  intro ρ a hS hO hM
  clear hM
  refine regP T hS (sp := []) (ks := [0, 1]) (bs := []) (sy' := ⟨[(0, I x_), (1, I y_)], []⟩) (by kernel_rfl) ?_
  intro a hS
  refine regO ?_
  refine opsP T hS 1 (sp := []) (ks := [0, 1, 7]) (bs := []) (sy' := ⟨[(0, I x_), (1, I y_), (7, I x_)], []⟩) (by kernel_rfl) ?_
  intro a hS
  refine op1 (call hS (by kernel_rfl) (by kernel_rfl) hb84 (by kernel_rfl) (fun _ _ => rfl) (k84 _ _ x_) ?_)
  intro v101 a w102 χ103 hE hp hS
  replace hO := hO.mv hE rfl rfl
  clear hE
  obtain ⟨r104, hr⟩ : ∃ r, cmp_isNaN_int x_ = r := ⟨_, rfl⟩
  replace hm := hm r104 hr
  rw [hr] at hp
  clear hr
  subst hp
  refine endP T hS (sp := []) (ks := [0, 1, 5]) (bs := []) (sy' := ⟨[(0, I x_), (1, I y_), (5, B r104)], []⟩) (by kernel_rfl) ?_
  intro a hS
  refine regO ?_
  refine opsP T hS 1 (sp := []) (ks := [0, 1, 5, 9]) (bs := []) (sy' := ⟨[(0, I x_), (1, I y_), (5, B r104), (9, I y_)], []⟩) (by kernel_rfl) ?_
  intro a hS
  refine op1 (call hS (by kernel_rfl) (by kernel_rfl) hb84 (by kernel_rfl) (fun _ _ => rfl) (k84 _ _ y_) ?_)
  intro v105 a w106 χ107 hE hp hS
  replace hO := hO.mv hE rfl rfl
  clear hE
  obtain ⟨r108, hr⟩ : ∃ r, cmp_isNaN_int y_ = r := ⟨_, rfl⟩
  replace hm := hm r108 hr
  rw [hr] at hp
  clear hr
  subst hp
  refine endP T hS (sp := []) (ks := [0, 1, 5, 6]) (bs := []) (sy' := ⟨[(0, I x_), (1, I y_), (5, B r104), (6, B r108)], []⟩) (by kernel_rfl) ?_
  intro a hS
  refine wseq ?_
  refine regP T hS (sp := []) (ks := [0, 1, 6, 11]) (bs := []) (sy' := ⟨[(0, I x_), (1, I y_), (6, B r108), (11, B r104)], []⟩) (by kernel_rfl) ?_
  intro a hS
  refine wcond hS (b := r104) (by kernel_rfl) (fun hb => ?_) (fun hb => ?_)
  · replace hm := hm.1 hb
    refine wseq ?_
    refine regP T hS (sp := []) (ks := [12]) (bs := []) (sy' := ⟨[(12, B r108)], []⟩) (by kernel_rfl) ?_
    intro a hS
    refine wcond hS (b := r108) (by kernel_rfl) (fun hb => ?_) (fun hb => ?_)
    · replace hm := hm.1 hb
      refine regP T hS (sp := []) (ks := [4]) (bs := []) (sy' := ⟨[(4, I 0)], []⟩) (by kernel_rfl) ?_
      intro a hS
      refine wret ?_
      exact fin T hS hO (fun c => c) rfl (r := [.int .i64 0]) (by kernel_rfl) (fun χ' hM hC => ⟨0, hm, rfl⟩)
    · replace hm := hm.2 hb
      refine wskip ?_
      refine regP T hS (sp := []) (ks := [4]) (bs := []) (sy' := ⟨[(4, I (-1))], []⟩) (by kernel_rfl) ?_
      intro a hS
      refine wret ?_
      exact fin T hS hO (fun c => c) rfl (r := [.int .i64 (-1)]) (by kernel_rfl) (fun χ' hM hC => ⟨(-1), hm, rfl⟩)
  · replace hm := hm.2 hb
    refine wskip ?_
    refine wseq ?_
    refine regP T hS (sp := []) (ks := [0, 1, 13]) (bs := []) (sy' := ⟨[(0, I x_), (1, I y_), (13, B r108)], []⟩) (by kernel_rfl) ?_
    intro a hS
    refine wcond hS (b := r108) (by kernel_rfl) (fun hb => ?_) (fun hb => ?_)
    · replace hm := hm.1 hb
      refine regP T hS (sp := []) (ks := [4]) (bs := []) (sy' := ⟨[(4, I 1)], []⟩) (by kernel_rfl) ?_
      intro a hS
      refine wret ?_
      exact fin T hS hO (fun c => c) rfl (r := [.int .i64 1]) (by kernel_rfl) (fun χ' hM hC => ⟨1, hm, rfl⟩)
    · replace hm := hm.2 hb
      refine wskip ?_
      refine wseq ?_
      refine regP T hS (sp := []) (ks := [0, 1, 16]) (bs := []) (sy' := ⟨[(0, I x_), (1, I y_), (16, B (decide (x_ < y_)))], []⟩) (by kernel_rfl) ?_
      intro a hS
      refine wcond hS (b := decide (x_ < y_)) (by kernel_rfl) (fun hb => ?_) (fun hb => ?_)
      · replace hm := hm.1 hb
        refine regP T hS (sp := []) (ks := [4]) (bs := []) (sy' := ⟨[(4, I (-1))], []⟩) (by kernel_rfl) ?_
        intro a hS
        refine wret ?_
        exact fin T hS hO (fun c => c) rfl (r := [.int .i64 (-1)]) (by kernel_rfl) (fun χ' hM hC => ⟨(-1), hm, rfl⟩)
      · replace hm := hm.2 hb
        refine wskip ?_
        refine wseq ?_
        refine regP T hS (sp := []) (ks := [19]) (bs := []) (sy' := ⟨[(19, B (decide (x_ > y_)))], []⟩) (by kernel_rfl) ?_
        intro a hS
        refine wcond hS (b := decide (x_ > y_)) (by kernel_rfl) (fun hb => ?_) (fun hb => ?_)
        · replace hm := hm.1 hb
          refine regP T hS (sp := []) (ks := [4]) (bs := []) (sy' := ⟨[(4, I 1)], []⟩) (by kernel_rfl) ?_
          intro a hS
          refine wret ?_
          exact fin T hS hO (fun c => c) rfl (r := [.int .i64 1]) (by kernel_rfl) (fun χ' hM hC => ⟨1, hm, rfl⟩)
        · replace hm := hm.2 hb
          refine wskip ?_
          refine regP T hS (sp := []) (ks := [4]) (bs := []) (sy' := ⟨[(4, I 0)], []⟩) (by kernel_rfl) ?_
          intro a hS
          refine wret ?_
          exact fin T hS hO (fun c => c) rfl (r := [.int .i64 0]) (by kernel_rfl) (fun χ' hM hC => ⟨0, hm, rfl⟩)
theorem C82 (k84 : S84) (v : ∀ (x_ : Int) (y_ : Int), VC82 x_ y_ (fun r => r = cmp_Compare_int x_ y_)) : S82 := by
  intro w χ x_ y_    
  refine (W82 k84 w χ x_ y_    _ (v x_ y_)).mono ?_
  rintro _ _ _ _ ⟨r, rfl, h⟩
  exact h
def S72 : Prop := ∀ (w : World) (χ : Nat → Nat) (a_ : Api_Row) (b_ : Api_Row), Ret Try.prog 72 #[.agg #[.int .i64 a_.State, .int .i64 a_.Kind, .int .i64 a_.Next, .int .i64 a_.Result], .agg #[.int .i64 b_.State, .int .i64 b_.Kind, .int .i64 b_.Next, .int .i64 b_.Result]] xnone w χ (fun w χ' v => v = .int .i64 (object_place a_ b_))
theorem hb72 : hasBody Try.prog 72 = true := by kernel_rfl
/-- replevin/object.place -/
theorem W72 (k81 : S81) (k82 : S82) (w0 : World) (χ0 : Nat → Nat) (a_ : Api_Row) (b_ : Api_Row) (Q : Int → Prop) (hm : VC72 a_ b_ Q) :
    Ret Try.prog 72 #[.agg #[.int .i64 a_.State, .int .i64 a_.Kind, .int .i64 a_.Next, .int .i64 a_.Result], .agg #[.int .i64 b_.State, .int .i64 b_.Kind, .int .i64 b_.Next, .int .i64 b_.Result]] xnone w0 χ0 (fun w χ' v => ∃ r, Q r ∧ v = .int .i64 r) := by
  unfold VC72 at hm
  refine enter Try.func72 rfl (vals := [.agg #[.int .i64 a_.State, .int .i64 a_.Kind, .int .i64 a_.Next, .int .i64 a_.Result], .agg #[.int .i64 b_.State, .int .i64 b_.Kind, .int .i64 b_.Next, .int .i64 b_.Result]]) (by kernel_rfl) ?_
  intro ρ a hS hO hM
  clear hM
  refine regM T hS (sp := []) (ks := [2, 3]) (bs := [3, 4]) (sy' := ⟨[(2, Pt 3 0), (3, Pt 4 0)], [(3, (102, [I a_.State, I a_.Kind, I a_.Next, I a_.Result])), (4, (102, [I b_.State, I b_.Kind, I b_.Next, I b_.Result]))]⟩) (by kernel_rfl) ?_
  intro ρ a w119 χ120 hS hE hr
  replace hO := hO.mv hE rfl rfl
  clear hE hr
  refine drawnSX [3, 4] mixed hS ?_
  intro w101 χ102 hS hE hD hH
  replace hO := hO.mv hE rfl rfl
  clear hE
  refine take T [0, 2, 5, 7, 1, 3, 6, 8] [3, 4] [6, 8, 11, 13] hS (by kernel_rfl) (by kernel_rfl) (by kernel_rfl) hH (listed' := #[true, true, true, true, false, true, true, true, true, false, false, false, false]) (fuel := 5) (sy' := ⟨[(6, I a_.State), (8, I b_.State), (11, I a_.Kind), (13, I b_.Kind)], [(3, (102, [I a_.State, I a_.Kind, I a_.Next, I a_.Result])), (4, (102, [I b_.State, I b_.Kind, I b_.Next, I b_.Result]))]⟩) (by kernel_rfl) (by rfl) ?_
  intro a hS
  refine only 4 (by kernel_rfl) (by rfl) (call hS (by kernel_rfl) (by kernel_rfl) hb82 (by kernel_rfl) (fun _ _ => rfl) (k82 _ _ a_.State b_.State) ?_)
  intro v103 a w104 χ105 hE hp hS
  replace hO := hO.mv hE rfl rfl
  replace hD := hD.ev hE rfl
  clear hE
  obtain ⟨r106, hr⟩ : ∃ r, cmp_Compare_int a_.State b_.State = r := ⟨_, rfl⟩
  replace hm := hm r106 hr
  rw [hr] at hp
  clear hr
  subst hp
  replace hS := hS.sel [6, 8, 11, 13, 9] [3, 4] (sy' := ⟨[(6, I a_.State), (8, I b_.State), (11, I a_.Kind), (13, I b_.Kind), (9, I r106)], [(3, (102, [I a_.State, I a_.Kind, I a_.Next, I a_.Result])), (4, (102, [I b_.State, I b_.Kind, I b_.Next, I b_.Result]))]⟩) (by kernel_rfl)
  refine andH (Hold.of hS (bks := [3, 4]) (by kernel_rfl) hD) ?_
  intro hH
  refine only 9 (by kernel_rfl) (by rfl) (call hS (by kernel_rfl) (by kernel_rfl) hb82 (by kernel_rfl) (fun _ _ => rfl) (k82 _ _ a_.Kind b_.Kind) ?_)
  intro v107 a w108 χ109 hE hp hS
  replace hO := hO.mv hE rfl rfl
  replace hD := hD.ev hE rfl
  clear hE
  obtain ⟨r110, hr⟩ : ∃ r, cmp_Compare_int a_.Kind b_.Kind = r := ⟨_, rfl⟩
  replace hm := hm r110 hr
  rw [hr] at hp
  clear hr
  subst hp
  replace hS := hS.sel [6, 8, 11, 13, 9, 14] [3, 4] (sy' := ⟨[(6, I a_.State), (8, I b_.State), (11, I a_.Kind), (13, I b_.Kind), (9, I r106), (14, I r110)], [(3, (102, [I a_.State, I a_.Kind, I a_.Next, I a_.Result])), (4, (102, [I b_.State, I b_.Kind, I b_.Next, I b_.Result]))]⟩) (by kernel_rfl)
  refine andH (Hold.of hS (bks := [3, 4]) (by kernel_rfl) hD) ?_
  intro hH
  refine only 10 (by kernel_rfl) (by rfl) (lit (E := 3) (col := 0) (T := tI) (vals := [.int .i64 r106, .int .i64 r110]) (ys := [r106, r110]) T hS (by kernel_rfl) (by kernel_rfl) (by kernel_rfl) (by kernel_rfl) (by exact ⟨rfl, rfl, trivial⟩) rfl (by kernel_rfl) (by kernel_rfl) (by kernel_rfl) (by kernel_rfl) ?_)
  intro b111 a w112 χ113 hE h114 hN hS
  clear hN
  replace hO := hO.mv hE rfl rfl
  replace hD := hD.ev hE rfl
  clear hE
  replace h114 := h114.rs0
  refine andH (Hold.of hS (bks := [3, 4]) (by kernel_rfl) hD) ?_
  intro hH
  refine only 11 (by kernel_rfl) (by rfl) (call hS (by kernel_rfl) (by kernel_rfl) hb81 (by kernel_rfl) (fun _ _ => rfl) (k81 _ _ [r106, r110] (some ⟨b111, 0, none⟩) 2 h114) ?_)
  intro v115 a w116 χ117 hE hp hS
  replace hO := hO.mv hE rfl rfl
  replace hD := hD.ev hE rfl
  replace h114 := h114.mv hE rfl
  clear hE
  obtain ⟨r118, hr⟩ : ∃ r, cmp_Or_int [r106, r110] = r := ⟨_, rfl⟩
  replace hm := hm r118 hr
  rw [hr] at hp
  clear hr
  subst hp
  replace hS := hS.sel [6, 8, 11, 13, 9, 14, 15, 16] [3, 4] (sy' := ⟨[(6, I a_.State), (8, I b_.State), (11, I a_.Kind), (13, I b_.Kind), (9, I r106), (14, I r110), (15, V (.slice (some ⟨b111, 0, none⟩) [r106, r110].length 2)), (16, I r118)], [(3, (102, [I a_.State, I a_.Kind, I a_.Next, I a_.Result])), (4, (102, [I b_.State, I b_.Kind, I b_.Next, I b_.Result]))]⟩) (by kernel_rfl)
  refine andH (Hold.of hS (bks := [3, 4]) (by kernel_rfl) hD) ?_
  intro hH
  refine take T [12] [3, 4] [4] hS (by kernel_rfl) (by kernel_rfl) (by kernel_rfl) hH (listed' := #[true, true, true, true, true, true, true, true, true, true, true, true, true]) (fuel := 0) (sy' := ⟨[(4, I r118)], [(3, (102, [I a_.State, I a_.Kind, I a_.Next, I a_.Result])), (4, (102, [I b_.State, I b_.Kind, I b_.Next, I b_.Result]))]⟩) (by kernel_rfl) (by rfl) ?_
  intro a hS
  refine drawnDone (by kernel_rfl) ?_
  clear hD hH
  replace hS := hS.sel [4] [] (sy' := ⟨[(4, I r118)], []⟩) (by kernel_rfl)
  refine wret ?_
  exact fin T hS hO (fun c => c) rfl (r := [.int .i64 r118]) (by kernel_rfl) (fun χ' hM hC => ⟨r118, hm, rfl⟩)
theorem C72 (k81 : S81) (k82 : S82) (v : ∀ (a_ : Api_Row) (b_ : Api_Row), VC72 a_ b_ (fun r => r = object_place a_ b_)) : S72 := by
  intro w χ a_ b_    
  refine (W72 k81 k82 w χ a_ b_    _ (v a_ b_)).mono ?_
  rintro _ _ _ _ ⟨r, rfl, h⟩
  exact h
def S55 : Prop := ∀ (w : World) (χ : Nat → Nat) (o_ : Api_Object) (i_ : Int) (a1 : Option Addr) (c1 : Nat), preRow o_ i_ → RS tApi_Row w χ a1 o_.Rows c1 → Ret Try.prog 55 #[.agg #[.int .i64 o_.States, .int .i64 o_.Kinds, .int .i64 o_.Init, .slice a1 o_.Rows.length c1], .int .i64 i_] xnone w χ (fun w χ' v => v = .int .i64 (object_row o_ i_))
theorem hb55 : hasBody Try.prog 55 = true := by kernel_rfl
/-- replevin/object.row -/
theorem W55 (k54 : S54) (k72 : S72) (w0 : World) (χ0 : Nat → Nat) (o_ : Api_Object) (i_ : Int) (a1 : Option Addr) (c1 : Nat) (Q : Int → Prop) (hm : VC55 o_ i_ Q) (h1 : RS tApi_Row w0 χ0 a1 o_.Rows c1) :
    Ret Try.prog 55 #[.agg #[.int .i64 o_.States, .int .i64 o_.Kinds, .int .i64 o_.Init, .slice a1 o_.Rows.length c1], .int .i64 i_] xnone w0 χ0 (fun w χ' v => ∃ r, Q r ∧ v = .int .i64 r) := by
  unfold VC55 at hm
  replace hm := hm (h1.sm (by kernel_rfl))
  refine enter Try.func55 rfl (vals := [.agg #[.int .i64 o_.States, .int .i64 o_.Kinds, .int .i64 o_.Init, .slice a1 o_.Rows.length c1], .int .i64 i_]) (by kernel_rfl) ?_
  intro ρ a hS hO hM
  replace h1 := h1.m0 hM
  clear hM
  refine regM T hS (sp := []) (ks := [1, 2]) (bs := [3]) (sy' := ⟨[(1, I i_), (2, Pt 3 0)], [(3, (24, [I o_.States, I o_.Kinds, I o_.Init, V (.slice a1 o_.Rows.length c1)]))]⟩) (by kernel_rfl) ?_
  intro ρ a w138 χ139 hS hE hr
  replace hO := hO.mv hE rfl rfl
  replace h1 := h1.mv hE rfl
  clear hE hr
  refine regO ?_
  refine opsP T hS 3 (sp := []) (ks := [1, 2, 7, 8]) (bs := [3]) (sy' := ⟨[(1, I i_), (2, Pt 3 0), (7, V (.slice a1 o_.Rows.length c1)), (8, I i_)], [(3, (24, [I o_.States, I o_.Kinds, I o_.Init, V (.slice a1 o_.Rows.length c1)]))]⟩) (by kernel_rfl) ?_
  intro a hS
  obtain ⟨hq, hm⟩ := hm
  refine op1 (index (e := 102) (k := .i64) T hS (by kernel_rfl) (by kernel_rfl) (by kernel_rfl) (by kernel_rfl) h1 (by kernel_rfl) (by kernel_rfl) hq.1 hq.2 ?_)
  intro A101 a h102 hS
  clear hq
  refine op1 (loadA T hS (by kernel_rfl) (by kernel_rfl) (by kernel_rfl) h102 (by kernel_rfl) (by kernel_rfl) ?_)
  intro v103 a hv hS
  subst hv
  refine endM T hS (sp := []) (ks := [1, 2, 5]) (bs := [3, 6]) (sy' := ⟨[(1, I i_), (2, Pt 3 0), (5, Pt 6 0)], [(3, (24, [I o_.States, I o_.Kinds, I o_.Init, V (.slice a1 o_.Rows.length c1)])), (6, (102, [I ((gi o_.Rows i_).State), I ((gi o_.Rows i_).Kind), I ((gi o_.Rows i_).Next), I ((gi o_.Rows i_).Result)]))]⟩) (by kernel_rfl) ?_
  intro ρ a w136 χ137 hS hE hr
  replace hO := hO.mv hE rfl rfl
  replace h1 := h1.mv hE rfl
  clear hE hr
  refine wseq ?_
  refine wblock ?_
  refine wcut (fun a w => ∃ (ρ : Nat → Nat) (χ : Nat → Nat) (x_104 : Bool), VC55_J1 o_ i_ Q x_104 ∧ St Try.f55.ntmps ⟨[(1, I i_), (2, Pt 3 0), (5, Pt 6 0), (11, B x_104)], [(3, (24, [I o_.States, I o_.Kinds, I o_.Init, V (.slice a1 o_.Rows.length c1)])), (6, (102, [I ((gi o_.Rows i_).State), I ((gi o_.Rows i_).Kind), I ((gi o_.Rows i_).Next), I ((gi o_.Rows i_).Result)]))]⟩ ρ a w χ ∧ Old w0 χ0 w χ ∧ RS tApi_Row w χ a1 o_.Rows c1) ?_ ?_
  · refine region ?_
    refine opsP T hS 4 (sp := []) (ks := [1, 2, 5, 13, 15]) (bs := [3, 6]) (sy' := ⟨[(1, I i_), (2, Pt 3 0), (5, Pt 6 0), (13, I ((gi o_.Rows i_).State)), (15, I o_.States)], [(3, (24, [I o_.States, I o_.Kinds, I o_.Init, V (.slice a1 o_.Rows.length c1)])), (6, (102, [I ((gi o_.Rows i_).State), I ((gi o_.Rows i_).Kind), I ((gi o_.Rows i_).Next), I ((gi o_.Rows i_).Result)]))]⟩) (by kernel_rfl) ?_
    intro a hS
    refine op1 (call hS (by kernel_rfl) (by kernel_rfl) hb54 (by kernel_rfl) (fun _ _ => rfl) (k54 _ _ ((gi o_.Rows i_).State) o_.States) ?_)
    intro v126 a w127 χ128 hE hp hS
    replace hO := hO.mv hE rfl rfl
    replace h1 := h1.mv hE rfl
    clear hE
    obtain ⟨r129, hr⟩ : ∃ r, object_within ((gi o_.Rows i_).State) o_.States = r := ⟨_, rfl⟩
    replace hm := hm r129 hr
    rw [hr] at hp
    clear hr
    subst hp
    refine opsP T hS 2 (sp := []) (ks := [1, 2, 5, 18]) (bs := [3, 6]) (sy' := ⟨[(1, I i_), (2, Pt 3 0), (5, Pt 6 0), (18, B (!r129))], [(3, (24, [I o_.States, I o_.Kinds, I o_.Init, V (.slice a1 o_.Rows.length c1)])), (6, (102, [I ((gi o_.Rows i_).State), I ((gi o_.Rows i_).Kind), I ((gi o_.Rows i_).Next), I ((gi o_.Rows i_).Result)]))]⟩) (by kernel_rfl) ?_
    intro a hS
    rcases Bool.eq_false_or_eq_true (!r129) with hb | hb
    · replace hS := hS.lit (t := 18) (by kernel_rfl) hb
      replace hm := hm.1 hb
      refine endP T hS (sp := []) (ks := [1, 2, 5, 11]) (bs := [3, 6]) (sy' := ⟨[(1, I i_), (2, Pt 3 0), (5, Pt 6 0), (11, B true)], [(3, (24, [I o_.States, I o_.Kinds, I o_.Init, V (.slice a1 o_.Rows.length c1)])), (6, (102, [I ((gi o_.Rows i_).State), I ((gi o_.Rows i_).Kind), I ((gi o_.Rows i_).Next), I ((gi o_.Rows i_).Result)]))]⟩) (by kernel_rfl) ?_
      intro a hS
      exact ⟨ρ, _, true, hm, hS.sel [1, 2, 5, 11] [3, 6] (by kernel_rfl), hO, h1⟩
    · replace hS := hS.lit (t := 18) (by kernel_rfl) hb
      replace hm := hm.2 hb
      refine opsP T hS 4 (sp := []) (ks := [1, 2, 5, 18, 20, 22]) (bs := [3, 6]) (sy' := ⟨[(1, I i_), (2, Pt 3 0), (5, Pt 6 0), (18, B false), (20, I ((gi o_.Rows i_).Next)), (22, I o_.States)], [(3, (24, [I o_.States, I o_.Kinds, I o_.Init, V (.slice a1 o_.Rows.length c1)])), (6, (102, [I ((gi o_.Rows i_).State), I ((gi o_.Rows i_).Kind), I ((gi o_.Rows i_).Next), I ((gi o_.Rows i_).Result)]))]⟩) (by kernel_rfl) ?_
      intro a hS
      refine op1 (call hS (by kernel_rfl) (by kernel_rfl) hb54 (by kernel_rfl) (fun _ _ => rfl) (k54 _ _ ((gi o_.Rows i_).Next) o_.States) ?_)
      intro v130 a w131 χ132 hE hp hS
      replace hO := hO.mv hE rfl rfl
      replace h1 := h1.mv hE rfl
      clear hE
      obtain ⟨r133, hr⟩ : ∃ r, object_within ((gi o_.Rows i_).Next) o_.States = r := ⟨_, rfl⟩
      replace hm := hm r133 hr
      rw [hr] at hp
      clear hr
      subst hp
      refine endP T hS (sp := []) (ks := [1, 2, 5, 11]) (bs := [3, 6]) (sy' := ⟨[(1, I i_), (2, Pt 3 0), (5, Pt 6 0), (11, B (!r133))], [(3, (24, [I o_.States, I o_.Kinds, I o_.Init, V (.slice a1 o_.Rows.length c1)])), (6, (102, [I ((gi o_.Rows i_).State), I ((gi o_.Rows i_).Kind), I ((gi o_.Rows i_).Next), I ((gi o_.Rows i_).Result)]))]⟩) (by kernel_rfl) ?_
      intro a hS
      exact ⟨ρ, _, (!r133), hm, hS.sel [1, 2, 5, 11] [3, 6] (by kernel_rfl), hO, h1⟩
  · rintro a w135 ⟨ρ, χ134, x_104, hm, hS, hO, h105⟩
    unfold VC55_J1 at hm
    refine wcond hS (b := x_104) (by kernel_rfl) (fun hb => ?_) (fun hb => ?_)
    · replace hm := hm.1 hb
      refine regP T hS (sp := []) (ks := [4]) (bs := []) (sy' := ⟨[(4, I 30)], []⟩) (by kernel_rfl) ?_
      intro a hS
      refine wret ?_
      exact fin T hS hO (fun c => c) rfl (r := [.int .i64 30]) (by kernel_rfl) (fun χ' hM hC => ⟨30, hm, rfl⟩)
    · replace hm := hm.2 hb
      refine regO ?_
      refine opsP T hS 4 (sp := []) (ks := [1, 2, 5, 28, 30]) (bs := [3, 6]) (sy' := ⟨[(1, I i_), (2, Pt 3 0), (5, Pt 6 0), (28, I ((gi o_.Rows i_).Kind)), (30, I o_.Kinds)], [(3, (24, [I o_.States, I o_.Kinds, I o_.Init, V (.slice a1 o_.Rows.length c1)])), (6, (102, [I ((gi o_.Rows i_).State), I ((gi o_.Rows i_).Kind), I ((gi o_.Rows i_).Next), I ((gi o_.Rows i_).Result)]))]⟩) (by kernel_rfl) ?_
      intro a hS
      refine op1 (call hS (by kernel_rfl) (by kernel_rfl) hb54 (by kernel_rfl) (fun _ _ => rfl) (k54 _ _ ((gi o_.Rows i_).Kind) o_.Kinds) ?_)
      intro v106 a w107 χ108 hE hp hS
      replace hO := hO.mv hE rfl rfl
      replace h105 := h105.mv hE rfl
      clear hE
      obtain ⟨r109, hr⟩ : ∃ r, object_within ((gi o_.Rows i_).Kind) o_.Kinds = r := ⟨_, rfl⟩
      replace hm := hm r109 hr
      rw [hr] at hp
      clear hr
      subst hp
      refine endP T hS (sp := []) (ks := [1, 2, 5, 26]) (bs := [3, 6]) (sy' := ⟨[(1, I i_), (2, Pt 3 0), (5, Pt 6 0), (26, B (!r109))], [(3, (24, [I o_.States, I o_.Kinds, I o_.Init, V (.slice a1 o_.Rows.length c1)])), (6, (102, [I ((gi o_.Rows i_).State), I ((gi o_.Rows i_).Kind), I ((gi o_.Rows i_).Next), I ((gi o_.Rows i_).Result)]))]⟩) (by kernel_rfl) ?_
      intro a hS
      refine wcond hS (b := (!r109)) (by kernel_rfl) (fun hb => ?_) (fun hb => ?_)
      · replace hm := hm.1 hb
        refine regP T hS (sp := []) (ks := [4]) (bs := []) (sy' := ⟨[(4, I 31)], []⟩) (by kernel_rfl) ?_
        intro a hS
        refine wret ?_
        exact fin T hS hO (fun c => c) rfl (r := [.int .i64 31]) (by kernel_rfl) (fun χ' hM hC => ⟨31, hm, rfl⟩)
      · replace hm := hm.2 hb
        refine regO ?_
        refine opsP T hS 2 (sp := []) (ks := [1, 2, 5, 35]) (bs := [3, 6]) (sy' := ⟨[(1, I i_), (2, Pt 3 0), (5, Pt 6 0), (35, I ((gi o_.Rows i_).Result))], [(3, (24, [I o_.States, I o_.Kinds, I o_.Init, V (.slice a1 o_.Rows.length c1)])), (6, (102, [I ((gi o_.Rows i_).State), I ((gi o_.Rows i_).Kind), I ((gi o_.Rows i_).Next), I ((gi o_.Rows i_).Result)]))]⟩) (by kernel_rfl) ?_
        intro a hS
        refine op1 (call hS (by kernel_rfl) (by kernel_rfl) hb54 (by kernel_rfl) (fun _ _ => rfl) (k54 _ _ ((gi o_.Rows i_).Result) 1000001) ?_)
        intro v110 a w111 χ112 hE hp hS
        replace hO := hO.mv hE rfl rfl
        replace h105 := h105.mv hE rfl
        clear hE
        obtain ⟨r113, hr⟩ : ∃ r, object_within ((gi o_.Rows i_).Result) 1000001 = r := ⟨_, rfl⟩
        replace hm := hm r113 hr
        rw [hr] at hp
        clear hr
        subst hp
        refine endP T hS (sp := []) (ks := [1, 2, 5, 33]) (bs := [3, 6]) (sy' := ⟨[(1, I i_), (2, Pt 3 0), (5, Pt 6 0), (33, B (!r113))], [(3, (24, [I o_.States, I o_.Kinds, I o_.Init, V (.slice a1 o_.Rows.length c1)])), (6, (102, [I ((gi o_.Rows i_).State), I ((gi o_.Rows i_).Kind), I ((gi o_.Rows i_).Next), I ((gi o_.Rows i_).Result)]))]⟩) (by kernel_rfl) ?_
        intro a hS
        refine wcond hS (b := (!r113)) (by kernel_rfl) (fun hb => ?_) (fun hb => ?_)
        · replace hm := hm.1 hb
          refine regP T hS (sp := []) (ks := [4]) (bs := []) (sy' := ⟨[(4, I 7)], []⟩) (by kernel_rfl) ?_
          intro a hS
          refine wret ?_
          exact fin T hS hO (fun c => c) rfl (r := [.int .i64 7]) (by kernel_rfl) (fun χ' hM hC => ⟨7, hm, rfl⟩)
        · replace hm := hm.2 hb
          refine wcut (fun a w => ∃ (ρ : Nat → Nat) (χ : Nat → Nat) (x_114 : Bool), VC55_J2 Q x_114 ∧ St Try.f55.ntmps ⟨[(38, B x_114)], []⟩ ρ a w χ ∧ Old w0 χ0 w χ) ?_ ?_
          · refine drawnX [3, 6] mixed hS ?_
            intro w115 χ116 hS hE hD hH
            replace hO := hO.mv hE rfl rfl
            replace h105 := h105.mv hE rfl
            clear hE
            refine take T [0, 1, 2] [3, 6] [1, 2, 5, 41] hS (by kernel_rfl) (by kernel_rfl) (by kernel_rfl) hH (listed' := #[true, true, true, false, false, false, false, false, false, false, false, false, false, false]) (fuel := 11) (sy' := ⟨[(1, I i_), (2, Pt 3 0), (5, Pt 6 0), (41, B (decide (i_ > 0)))], [(3, (24, [I o_.States, I o_.Kinds, I o_.Init, V (.slice a1 o_.Rows.length c1)])), (6, (102, [I ((gi o_.Rows i_).State), I ((gi o_.Rows i_).Kind), I ((gi o_.Rows i_).Next), I ((gi o_.Rows i_).Result)]))]⟩) (by kernel_rfl) (by rfl) ?_
            intro a hS
            rcases Bool.eq_false_or_eq_true (decide (i_ > 0)) with hb | hb
            · replace hS := hS.lit (t := 41) (by kernel_rfl) hb
              replace hm := hm.1 hb
              refine take T [3, 5, 9, 4, 6] [3, 6] [41, 43, 45, 48] hS (by kernel_rfl) (by kernel_rfl) (by kernel_rfl) hH (listed' := #[true, true, true, true, true, true, true, false, false, true, false, false, false, false]) (fuel := 6) (sy' := ⟨[(41, B true), (43, V (.slice a1 o_.Rows.length c1)), (45, I (IntKind.i64.wrap (i_ - 1))), (48, V (.agg #[.int .i64 ((gi o_.Rows i_).State), .int .i64 ((gi o_.Rows i_).Kind), .int .i64 ((gi o_.Rows i_).Next), .int .i64 ((gi o_.Rows i_).Result)]))], [(3, (24, [I o_.States, I o_.Kinds, I o_.Init, V (.slice a1 o_.Rows.length c1)])), (6, (102, [I ((gi o_.Rows i_).State), I ((gi o_.Rows i_).Kind), I ((gi o_.Rows i_).Next), I ((gi o_.Rows i_).Result)]))]⟩) (by kernel_rfl) (by rfl) ?_
              intro a hS
              obtain ⟨hq, hm⟩ := hm
              refine dindex (e := 102) (k := .i64) T 7 hS (by kernel_rfl) (by kernel_rfl) (by kernel_rfl) (by rfl) (by kernel_rfl) hH (by kernel_rfl) (by kernel_rfl) h105 (by kernel_rfl) (by kernel_rfl) hq.1 hq.2 ?_
              intro A117 a h118 hS
              clear hq
              have h118b := h118.here
              refine dloadA T 8 hS (by kernel_rfl) (by kernel_rfl) (by kernel_rfl) (by rfl) (by kernel_rfl) hH (by kernel_rfl) h118 h118b (by kernel_rfl) (by kernel_rfl) ?_
              intro v119 a hv hS
              subst hv
              refine only 10 (by kernel_rfl) (by rfl) (call hS (by kernel_rfl) (by kernel_rfl) hb72 (by kernel_rfl) (fun _ _ => rfl) (k72 _ _ (gi o_.Rows (IntKind.i64.wrap (i_ - 1))) (gi o_.Rows i_)) ?_)
              intro v120 a w121 χ122 hE hp hS
              replace hO := hO.mv hE rfl rfl
              replace hD := hD.ev hE rfl
              replace h105 := h105.mv hE rfl
              replace h118 := h118.mv hE rfl
              clear hE
              obtain ⟨r123, hr⟩ : ∃ r, object_place (gi o_.Rows (IntKind.i64.wrap (i_ - 1))) (gi o_.Rows i_) = r := ⟨_, rfl⟩
              replace hm := hm r123 hr
              rw [hr] at hp
              clear hr
              subst hp
              replace hS := hS.sel [41, 43, 45, 48, 46, 47, 49] [3, 6] (sy' := ⟨[(41, B true), (43, V (.slice a1 o_.Rows.length c1)), (45, I (IntKind.i64.wrap (i_ - 1))), (48, V (.agg #[.int .i64 ((gi o_.Rows i_).State), .int .i64 ((gi o_.Rows i_).Kind), .int .i64 ((gi o_.Rows i_).Next), .int .i64 ((gi o_.Rows i_).Result)])), (46, V (.pointer (some A117))), (47, V (.agg #[.int .i64 ((gi o_.Rows (IntKind.i64.wrap (i_ - 1))).State), .int .i64 ((gi o_.Rows (IntKind.i64.wrap (i_ - 1))).Kind), .int .i64 ((gi o_.Rows (IntKind.i64.wrap (i_ - 1))).Next), .int .i64 ((gi o_.Rows (IntKind.i64.wrap (i_ - 1))).Result)])), (49, I r123)], [(3, (24, [I o_.States, I o_.Kinds, I o_.Init, V (.slice a1 o_.Rows.length c1)])), (6, (102, [I ((gi o_.Rows i_).State), I ((gi o_.Rows i_).Kind), I ((gi o_.Rows i_).Next), I ((gi o_.Rows i_).Result)]))]⟩) (by kernel_rfl)
              refine andH (Hold.of hS (bks := [3, 6]) (by kernel_rfl) hD) ?_
              intro hH
              refine take T [11, 12, 13] [3, 6] [38] hS (by kernel_rfl) (by kernel_rfl) (by kernel_rfl) hH (listed' := #[true, true, true, true, true, true, true, true, true, true, true, true, true, true]) (fuel := 0) (sy' := ⟨[(38, B (decide (r123 ≥ 0)))], [(3, (24, [I o_.States, I o_.Kinds, I o_.Init, V (.slice a1 o_.Rows.length c1)])), (6, (102, [I ((gi o_.Rows i_).State), I ((gi o_.Rows i_).Kind), I ((gi o_.Rows i_).Next), I ((gi o_.Rows i_).Result)]))]⟩) (by kernel_rfl) (by rfl) ?_
              intro a hS
              refine drawnDone (by kernel_rfl) ?_
              clear hD hH
              replace hS := hS.sel [38] [] (sy' := ⟨[(38, B (decide (r123 ≥ 0)))], []⟩) (by kernel_rfl)
              exact ⟨ρ, _, decide (r123 ≥ 0), hm, hS.sel [38] [] (by kernel_rfl), hO⟩
            · replace hS := hS.lit (t := 41) (by kernel_rfl) hb
              replace hm := hm.2 hb
              refine take T [3, 5, 9, 4, 6, 7, 8, 10, 11, 12, 13] [3, 6] [38] hS (by kernel_rfl) (by kernel_rfl) (by kernel_rfl) hH (listed' := #[true, true, true, true, true, true, true, true, true, true, true, true, true, true]) (fuel := 0) (sy' := ⟨[(38, B false)], [(3, (24, [I o_.States, I o_.Kinds, I o_.Init, V (.slice a1 o_.Rows.length c1)])), (6, (102, [I ((gi o_.Rows i_).State), I ((gi o_.Rows i_).Kind), I ((gi o_.Rows i_).Next), I ((gi o_.Rows i_).Result)]))]⟩) (by kernel_rfl) (by rfl) ?_
              intro a hS
              refine drawnDone (by kernel_rfl) ?_
              clear hD hH
              replace hS := hS.sel [38] [] (sy' := ⟨[(38, B false)], []⟩) (by kernel_rfl)
              exact ⟨ρ, _, false, hm, hS.sel [38] [] (by kernel_rfl), hO⟩
          · rintro a w125 ⟨ρ, χ124, x_114, hm, hS, hO⟩
            unfold VC55_J2 at hm
            refine wcond hS (b := x_114) (by kernel_rfl) (fun hb => ?_) (fun hb => ?_)
            · replace hm := hm.1 hb
              refine regP T hS (sp := []) (ks := [4]) (bs := []) (sy' := ⟨[(4, I 32)], []⟩) (by kernel_rfl) ?_
              intro a hS
              refine wret ?_
              exact fin T hS hO (fun c => c) rfl (r := [.int .i64 32]) (by kernel_rfl) (fun χ' hM hC => ⟨32, hm, rfl⟩)
            · replace hm := hm.2 hb
              refine wskip ?_
              refine regP T hS (sp := []) (ks := [4]) (bs := []) (sy' := ⟨[(4, I 0)], []⟩) (by kernel_rfl) ?_
              intro a hS
              refine wret ?_
              exact fin T hS hO (fun c => c) rfl (r := [.int .i64 0]) (by kernel_rfl) (fun χ' hM hC => ⟨0, hm, rfl⟩)
theorem C55 (k54 : S54) (k72 : S72) (v : ∀ (o_ : Api_Object) (i_ : Int), preRow o_ i_ → VC55 o_ i_ (fun r => r = object_row o_ i_)) : S55 := by
  intro w χ o_ i_ a1 c1   hp h1
  refine (W55 k54 k72 w χ o_ i_ a1 c1   _ (v o_ i_ hp) h1).mono ?_
  rintro _ _ _ _ ⟨r, rfl, h⟩
  exact h
def S31 : Prop := ∀ (w : World) (χ : Nat → Nat) (o_ : Api_Object) (a1 : Option Addr) (c1 : Nat), preO o_ → RS tApi_Row w χ a1 o_.Rows c1 → Ret Try.prog 31 #[.agg #[.int .i64 o_.States, .int .i64 o_.Kinds, .int .i64 o_.Init, .slice a1 o_.Rows.length c1]] xnone w χ (fun w χ' v => v = .tuple #[.int .i64 ((object_Check o_).1), .int .i64 ((object_Check o_).2)])
theorem hb31 : hasBody Try.prog 31 = true := by kernel_rfl
/-- replevin/object.Check -/
theorem W31 (k54 : S54) (k55 : S55) (w0 : World) (χ0 : Nat → Nat) (o_ : Api_Object) (a1 : Option Addr) (c1 : Nat) (Q : Int × Int → Prop) (hm : VC31 o_ Q) (h1 : RS tApi_Row w0 χ0 a1 o_.Rows c1) :
    Ret Try.prog 31 #[.agg #[.int .i64 o_.States, .int .i64 o_.Kinds, .int .i64 o_.Init, .slice a1 o_.Rows.length c1]] xnone w0 χ0 (fun w χ' v => ∃ r, Q r ∧ v = .tuple #[.int .i64 r.1, .int .i64 r.2]) := by
  unfold VC31 at hm
  replace hm := hm (h1.sm (by kernel_rfl))
  refine enter Try.func31 rfl (vals := [.agg #[.int .i64 o_.States, .int .i64 o_.Kinds, .int .i64 o_.Init, .slice a1 o_.Rows.length c1]]) (by kernel_rfl) ?_
  intro ρ a hS hO hM
  replace h1 := h1.m0 hM
  clear hM
  refine regM T hS (sp := []) (ks := [1]) (bs := [2]) (sy' := ⟨[(1, Pt 2 0)], [(2, (24, [I o_.States, I o_.Kinds, I o_.Init, V (.slice a1 o_.Rows.length c1)]))]⟩) (by kernel_rfl) ?_
  intro ρ a w128 χ129 hS hE hr
  replace hO := hO.mv hE rfl rfl
  replace h1 := h1.mv hE rfl
  clear hE hr
  refine wseq ?_
  refine wcut (fun a w => ∃ (ρ : Nat → Nat) (χ : Nat → Nat) (x_101 : Bool), VC31_J1 o_ Q x_101 ∧ St Try.f31.ntmps ⟨[(1, Pt 2 0), (25, B x_101)], [(2, (24, [I o_.States, I o_.Kinds, I o_.Init, V (.slice a1 o_.Rows.length c1)]))]⟩ ρ a w χ ∧ Old w0 χ0 w χ ∧ RS tApi_Row w χ a1 o_.Rows c1) ?_ ?_
  · refine region ?_
    refine opsP T hS 3 (sp := []) (ks := [1, 8]) (bs := [2]) (sy' := ⟨[(1, Pt 2 0), (8, I (IntKind.i64.wrap (o_.States - 1)))], [(2, (24, [I o_.States, I o_.Kinds, I o_.Init, V (.slice a1 o_.Rows.length c1)]))]⟩) (by kernel_rfl) ?_
    intro a hS
    refine op1 (call hS (by kernel_rfl) (by kernel_rfl) hb54 (by kernel_rfl) (fun _ _ => rfl) (k54 _ _ (IntKind.i64.wrap (o_.States - 1)) 32) ?_)
    intro v114 a w115 χ116 hE hp hS
    replace hO := hO.mv hE rfl rfl
    replace h1 := h1.mv hE rfl
    clear hE
    obtain ⟨r117, hr⟩ : ∃ r, object_within (IntKind.i64.wrap (o_.States - 1)) 32 = r := ⟨_, rfl⟩
    replace hm := hm r117 hr
    rw [hr] at hp
    clear hr
    subst hp
    refine opsP T hS 2 (sp := []) (ks := [1, 11]) (bs := [2]) (sy' := ⟨[(1, Pt 2 0), (11, B (!r117))], [(2, (24, [I o_.States, I o_.Kinds, I o_.Init, V (.slice a1 o_.Rows.length c1)]))]⟩) (by kernel_rfl) ?_
    intro a hS
    rcases Bool.eq_false_or_eq_true (!r117) with hb | hb
    · replace hS := hS.lit (t := 11) (by kernel_rfl) hb
      replace hm := hm.1 hb
      refine endP T hS (sp := []) (ks := [1, 25]) (bs := [2]) (sy' := ⟨[(1, Pt 2 0), (25, B true)], [(2, (24, [I o_.States, I o_.Kinds, I o_.Init, V (.slice a1 o_.Rows.length c1)]))]⟩) (by kernel_rfl) ?_
      intro a hS
      exact ⟨ρ, _, true, hm, hS.sel [1, 25] [2] (by kernel_rfl), hO, h1⟩
    · replace hS := hS.lit (t := 11) (by kernel_rfl) hb
      replace hm := hm.2 hb
      refine opsP T hS 3 (sp := []) (ks := [1, 11, 14]) (bs := [2]) (sy' := ⟨[(1, Pt 2 0), (11, B false), (14, I (IntKind.i64.wrap (o_.Kinds - 1)))], [(2, (24, [I o_.States, I o_.Kinds, I o_.Init, V (.slice a1 o_.Rows.length c1)]))]⟩) (by kernel_rfl) ?_
      intro a hS
      refine op1 (call hS (by kernel_rfl) (by kernel_rfl) hb54 (by kernel_rfl) (fun _ _ => rfl) (k54 _ _ (IntKind.i64.wrap (o_.Kinds - 1)) 64) ?_)
      intro v118 a w119 χ120 hE hp hS
      replace hO := hO.mv hE rfl rfl
      replace h1 := h1.mv hE rfl
      clear hE
      obtain ⟨r121, hr⟩ : ∃ r, object_within (IntKind.i64.wrap (o_.Kinds - 1)) 64 = r := ⟨_, rfl⟩
      replace hm := hm r121 hr
      rw [hr] at hp
      clear hr
      subst hp
      refine opsP T hS 3 (sp := []) (ks := [1, 18]) (bs := [2]) (sy' := ⟨[(1, Pt 2 0), (18, B (!r121))], [(2, (24, [I o_.States, I o_.Kinds, I o_.Init, V (.slice a1 o_.Rows.length c1)]))]⟩) (by kernel_rfl) ?_
      intro a hS
      rcases Bool.eq_false_or_eq_true (!r121) with hb | hb
      · replace hS := hS.lit (t := 18) (by kernel_rfl) hb
        replace hm := hm.1 hb
        refine endP T hS (sp := []) (ks := [1, 25]) (bs := [2]) (sy' := ⟨[(1, Pt 2 0), (25, B true)], [(2, (24, [I o_.States, I o_.Kinds, I o_.Init, V (.slice a1 o_.Rows.length c1)]))]⟩) (by kernel_rfl) ?_
        intro a hS
        exact ⟨ρ, _, true, hm, hS.sel [1, 25] [2] (by kernel_rfl), hO, h1⟩
      · replace hS := hS.lit (t := 18) (by kernel_rfl) hb
        replace hm := hm.2 hb
        refine opsP T hS 4 (sp := []) (ks := [1, 18, 20, 22]) (bs := [2]) (sy' := ⟨[(1, Pt 2 0), (18, B false), (20, I o_.Init), (22, I o_.States)], [(2, (24, [I o_.States, I o_.Kinds, I o_.Init, V (.slice a1 o_.Rows.length c1)]))]⟩) (by kernel_rfl) ?_
        intro a hS
        refine op1 (call hS (by kernel_rfl) (by kernel_rfl) hb54 (by kernel_rfl) (fun _ _ => rfl) (k54 _ _ o_.Init o_.States) ?_)
        intro v122 a w123 χ124 hE hp hS
        replace hO := hO.mv hE rfl rfl
        replace h1 := h1.mv hE rfl
        clear hE
        obtain ⟨r125, hr⟩ : ∃ r, object_within o_.Init o_.States = r := ⟨_, rfl⟩
        replace hm := hm r125 hr
        rw [hr] at hp
        clear hr
        subst hp
        refine endP T hS (sp := []) (ks := [1, 25]) (bs := [2]) (sy' := ⟨[(1, Pt 2 0), (25, B (!r125))], [(2, (24, [I o_.States, I o_.Kinds, I o_.Init, V (.slice a1 o_.Rows.length c1)]))]⟩) (by kernel_rfl) ?_
        intro a hS
        exact ⟨ρ, _, (!r125), hm, hS.sel [1, 25] [2] (by kernel_rfl), hO, h1⟩
  · rintro a w127 ⟨ρ, χ126, x_101, hm, hS, hO, h102⟩
    unfold VC31_J1 at hm
    refine wcond hS (b := x_101) (by kernel_rfl) (fun hb => ?_) (fun hb => ?_)
    · replace hm := hm.1 hb
      refine regP T hS (sp := []) (ks := [2, 3]) (bs := []) (sy' := ⟨[(2, I (-1)), (3, I 2)], []⟩) (by kernel_rfl) ?_
      intro a hS
      refine wret ?_
      exact fin T hS hO (fun c => c) rfl (r := [.int .i64 (-1), .int .i64 2]) (by kernel_rfl) (fun χ' hM hC => ⟨((-1), 2), hm, rfl⟩)
    · replace hm := hm.2 hb
      refine wskip ?_
      refine wcut (fun a w => ∃ (ρ : Nat → Nat) (χ : Nat → Nat), VC31_J2 o_ Q ∧ St Try.f31.ntmps ⟨[(1, Pt 2 0)], [(2, (24, [I o_.States, I o_.Kinds, I o_.Init, V (.slice a1 o_.Rows.length c1)]))]⟩ ρ a w χ ∧ Old w0 χ0 w χ ∧ RS tApi_Row w χ a1 o_.Rows c1) ?_ ?_
      · refine regP T hS (sp := []) (ks := [1, 28, 29]) (bs := [2]) (sy' := ⟨[(1, Pt 2 0), (28, I ((o_.Rows.length : Nat) : Int)), (29, I 0)], [(2, (24, [I o_.States, I o_.Kinds, I o_.Init, V (.slice a1 o_.Rows.length c1)]))]⟩) (by kernel_rfl) ?_
        intro a hS
        refine wblock ?_
        obtain ⟨I1, μ1, hm0, hm⟩ := hm
        refine wloop (σ := Int) (fun s a w => ∃ (ρ : Nat → Nat) (χ : Nat → Nat), I1 s ∧ St Try.f31.ntmps ⟨[(1, Pt 2 0), (28, I ((o_.Rows.length : Nat) : Int)), (29, I s)], [(2, (24, [I o_.States, I o_.Kinds, I o_.Init, V (.slice a1 o_.Rows.length c1)]))]⟩ ρ a w χ ∧ Old w0 χ0 w χ ∧ RS tApi_Row w χ a1 o_.Rows c1) (fun s => μ1 s) (0) ?_ ?_
        · exact ⟨ρ, _, hm0, hS.sel [1, 28, 29] [2] (by kernel_rfl), hO, h102⟩
        · rintro x_104 a w111 ⟨ρ, χ110, hI, hS, hO, h105⟩
          replace hm := hm x_104 hI
          clear hI hm0
          refine regP T hS (sp := []) (ks := [1, 28, 29, 30]) (bs := [2]) (sy' := ⟨[(1, Pt 2 0), (28, I ((o_.Rows.length : Nat) : Int)), (29, I x_104), (30, B (decide (x_104 < ((o_.Rows.length : Nat) : Int))))], [(2, (24, [I o_.States, I o_.Kinds, I o_.Init, V (.slice a1 o_.Rows.length c1)]))]⟩) (by kernel_rfl) ?_
          intro a hS
          refine wseq ?_
          refine wcond hS (b := decide (x_104 < ((o_.Rows.length : Nat) : Int))) (by kernel_rfl) (fun hb => ?_) (fun hb => ?_)
          · replace hm := hm.1 hb
            refine wskip ?_
            refine wseq ?_
            refine wblock ?_
            refine regP T hS (sp := []) (ks := [1, 4, 28, 29]) (bs := [2]) (sy' := ⟨[(1, Pt 2 0), (4, I x_104), (28, I ((o_.Rows.length : Nat) : Int)), (29, I x_104)], [(2, (24, [I o_.States, I o_.Kinds, I o_.Init, V (.slice a1 o_.Rows.length c1)]))]⟩) (by kernel_rfl) ?_
            intro a hS
            refine regO ?_
            refine opsP T hS 2 (sp := []) (ks := [1, 4, 28, 29, 32, 33]) (bs := [2]) (sy' := ⟨[(1, Pt 2 0), (4, I x_104), (28, I ((o_.Rows.length : Nat) : Int)), (29, I x_104), (32, V (.agg #[.int .i64 o_.States, .int .i64 o_.Kinds, .int .i64 o_.Init, .slice a1 o_.Rows.length c1])), (33, I x_104)], [(2, (24, [I o_.States, I o_.Kinds, I o_.Init, V (.slice a1 o_.Rows.length c1)]))]⟩) (by kernel_rfl) ?_
            intro a hS
            obtain ⟨hq, hm⟩ := hm
            refine op1 (call hS (by kernel_rfl) (by kernel_rfl) hb55 (by kernel_rfl) (fun _ _ => rfl) (k55 _ _ o_ x_104 a1 c1 hq h105) ?_)
            intro v106 a w107 χ108 hE hp hS
            clear hq
            replace hO := hO.mv hE rfl rfl
            replace h105 := h105.mv hE rfl
            clear hE
            obtain ⟨r109, hr⟩ : ∃ r, object_row o_ x_104 = r := ⟨_, rfl⟩
            replace hm := hm r109 hr
            rw [hr] at hp
            clear hr
            subst hp
            refine endP T hS (sp := []) (ks := [1, 4, 5, 28, 29]) (bs := [2]) (sy' := ⟨[(1, Pt 2 0), (4, I x_104), (5, I r109), (28, I ((o_.Rows.length : Nat) : Int)), (29, I x_104)], [(2, (24, [I o_.States, I o_.Kinds, I o_.Init, V (.slice a1 o_.Rows.length c1)]))]⟩) (by kernel_rfl) ?_
            intro a hS
            refine regP T hS (sp := []) (ks := [1, 4, 5, 28, 29, 36]) (bs := [2]) (sy' := ⟨[(1, Pt 2 0), (4, I x_104), (5, I r109), (28, I ((o_.Rows.length : Nat) : Int)), (29, I x_104), (36, B (r109 != 0))], [(2, (24, [I o_.States, I o_.Kinds, I o_.Init, V (.slice a1 o_.Rows.length c1)]))]⟩) (by kernel_rfl) ?_
            intro a hS
            refine wcond hS (b := (r109 != 0)) (by kernel_rfl) (fun hb => ?_) (fun hb => ?_)
            · replace hm := hm.1 hb
              refine regP T hS (sp := []) (ks := [2, 3]) (bs := []) (sy' := ⟨[(2, I x_104), (3, I r109)], []⟩) (by kernel_rfl) ?_
              intro a hS
              refine wret ?_
              exact fin T hS hO (fun c => c) rfl (r := [.int .i64 x_104, .int .i64 r109]) (by kernel_rfl) (fun χ' hM hC => ⟨(x_104, r109), hm, rfl⟩)
            · replace hm := hm.2 hb
              refine wskip ?_
              refine region (endP T hS (sp := []) (ks := [1, 28, 29]) (bs := [2]) (sy' := ⟨[(1, Pt 2 0), (28, I ((o_.Rows.length : Nat) : Int)), (29, I (IntKind.i64.wrap (x_104 + 1)))], [(2, (24, [I o_.States, I o_.Kinds, I o_.Init, V (.slice a1 o_.Rows.length c1)]))]⟩) (by kernel_rfl) ?_)
              intro a hS
              exact ⟨IntKind.i64.wrap (x_104 + 1), ⟨ρ, _, hm.1, hS.sel [1, 28, 29] [2] (by kernel_rfl), hO, h105⟩, hm.2⟩
          · replace hm := hm.2 hb
            refine wexit (by rfl) ?_
            exact ⟨ρ, _, hm, hS.sel [1] [2] (by kernel_rfl), hO, h105⟩
      · rintro a w113 ⟨ρ, χ112, hm, hS, hO, h103⟩
        unfold VC31_J2 at hm
        refine regP T hS (sp := []) (ks := [2, 3]) (bs := []) (sy' := ⟨[(2, I ((o_.Rows.length : Nat) : Int)), (3, I 0)], []⟩) (by kernel_rfl) ?_
        intro a hS
        refine wret ?_
        exact fin T hS hO (fun c => c) rfl (r := [.int .i64 ((o_.Rows.length : Nat) : Int), .int .i64 0]) (by kernel_rfl) (fun χ' hM hC => ⟨(((o_.Rows.length : Nat) : Int), 0), hm, rfl⟩)
theorem C31 (k54 : S54) (k55 : S55) (v : ∀ (o_ : Api_Object), preO o_ → VC31 o_ (fun r => r = object_Check o_)) : S31 := by
  intro w χ o_ a1 c1   hp h1
  refine (W31 k54 k55 w χ o_ a1 c1   _ (v o_ hp) h1).mono ?_
  rintro _ _ _ _ ⟨r, rfl, h⟩
  exact h
def S44 : Prop := ∀ (w : World) (χ : Nat → Nat) (o_ : Api_Object) (state : Int) (a1 : Option Addr) (c1 : Nat), preO1 o_ state → RS tApi_Row w χ a1 o_.Rows c1 → Ret Try.prog 44 #[.agg #[.int .i64 o_.States, .int .i64 o_.Kinds, .int .i64 o_.Init, .slice a1 o_.Rows.length c1], .int .i64 state] xnone w χ (fun w χ' v => v = .int .i64 (run_may o_ state))
theorem hb44 : hasBody Try.prog 44 = true := by kernel_rfl
/-- replevin/run.may -/
theorem W44 (k31 : S31) (w0 : World) (χ0 : Nat → Nat) (o_ : Api_Object) (state : Int) (a1 : Option Addr) (c1 : Nat) (Q : Int → Prop) (hm : VC44 o_ state Q) (h1 : RS tApi_Row w0 χ0 a1 o_.Rows c1) :
    Ret Try.prog 44 #[.agg #[.int .i64 o_.States, .int .i64 o_.Kinds, .int .i64 o_.Init, .slice a1 o_.Rows.length c1], .int .i64 state] xnone w0 χ0 (fun w χ' v => ∃ r, Q r ∧ v = .int .i64 r) := by
  unfold VC44 at hm
  replace hm := hm (h1.sm (by kernel_rfl))
  refine enter Try.func44 rfl (vals := [.agg #[.int .i64 o_.States, .int .i64 o_.Kinds, .int .i64 o_.Init, .slice a1 o_.Rows.length c1], .int .i64 state]) (by kernel_rfl) ?_
  intro ρ a hS hO hM
  replace h1 := h1.m0 hM
  clear hM
  refine regM T hS (sp := []) (ks := [1, 2]) (bs := [3]) (sy' := ⟨[(1, I state), (2, Pt 3 0)], [(3, (24, [I o_.States, I o_.Kinds, I o_.Init, V (.slice a1 o_.Rows.length c1)]))]⟩) (by kernel_rfl) ?_
  intro ρ a w105 χ106 hS hE hr
  replace hO := hO.mv hE rfl rfl
  replace h1 := h1.mv hE rfl
  clear hE hr
  refine wseq ?_
  refine regO ?_
  refine opsP T hS 1 (sp := []) (ks := [1, 2, 8]) (bs := [3]) (sy' := ⟨[(1, I state), (2, Pt 3 0), (8, V (.agg #[.int .i64 o_.States, .int .i64 o_.Kinds, .int .i64 o_.Init, .slice a1 o_.Rows.length c1]))], [(3, (24, [I o_.States, I o_.Kinds, I o_.Init, V (.slice a1 o_.Rows.length c1)]))]⟩) (by kernel_rfl) ?_
  intro a hS
  obtain ⟨hq, hm⟩ := hm
  refine op1 (call hS (by kernel_rfl) (by kernel_rfl) hb31 (by kernel_rfl) (fun _ _ => rfl) (k31 _ _ o_ a1 c1 hq h1) ?_)
  intro v101 a w102 χ103 hE hp hS
  clear hq
  replace hO := hO.mv hE rfl rfl
  replace h1 := h1.mv hE rfl
  clear hE
  obtain ⟨r104, hr⟩ : ∃ r, object_Check o_ = r := ⟨_, rfl⟩
  replace hm := hm r104 hr
  rw [hr] at hp
  clear hr
  subst hp
  refine endP T hS (sp := []) (ks := [1, 2, 6]) (bs := [3]) (sy' := ⟨[(1, I state), (2, Pt 3 0), (6, I r104.2)], [(3, (24, [I o_.States, I o_.Kinds, I o_.Init, V (.slice a1 o_.Rows.length c1)]))]⟩) (by kernel_rfl) ?_
  intro a hS
  refine regP T hS (sp := []) (ks := [1, 2, 13]) (bs := [3]) (sy' := ⟨[(1, I state), (2, Pt 3 0), (13, B (r104.2 != 0))], [(3, (24, [I o_.States, I o_.Kinds, I o_.Init, V (.slice a1 o_.Rows.length c1)]))]⟩) (by kernel_rfl) ?_
  intro a hS
  refine wcond hS (b := (r104.2 != 0)) (by kernel_rfl) (fun hb => ?_) (fun hb => ?_)
  · replace hm := hm.1 hb
    refine regP T hS (sp := []) (ks := [4]) (bs := []) (sy' := ⟨[(4, I 2)], []⟩) (by kernel_rfl) ?_
    intro a hS
    refine wret ?_
    exact fin T hS hO (fun c => c) rfl (r := [.int .i64 2]) (by kernel_rfl) (fun χ' hM hC => ⟨2, hm, rfl⟩)
  · replace hm := hm.2 hb
    refine wskip ?_
    refine wseq ?_
    refine regP T hS (sp := [16]) (ks := [21]) (bs := []) (sy' := ⟨[(21, B ((decide (state < 0)) || (decide (state ≥ o_.States))))], []⟩) (by kernel_rfl) ?_
    intro a hS
    refine wcond hS (b := ((decide (state < 0)) || (decide (state ≥ o_.States)))) (by kernel_rfl) (fun hb => ?_) (fun hb => ?_)
    · replace hm := hm.1 hb
      refine regP T hS (sp := []) (ks := [4]) (bs := []) (sy' := ⟨[(4, I 30)], []⟩) (by kernel_rfl) ?_
      intro a hS
      refine wret ?_
      exact fin T hS hO (fun c => c) rfl (r := [.int .i64 30]) (by kernel_rfl) (fun χ' hM hC => ⟨30, hm, rfl⟩)
    · replace hm := hm.2 hb
      refine wskip ?_
      refine regP T hS (sp := []) (ks := [4]) (bs := []) (sy' := ⟨[(4, I 0)], []⟩) (by kernel_rfl) ?_
      intro a hS
      refine wret ?_
      exact fin T hS hO (fun c => c) rfl (r := [.int .i64 0]) (by kernel_rfl) (fun χ' hM hC => ⟨0, hm, rfl⟩)
theorem C44 (k31 : S31) (v : ∀ (o_ : Api_Object) (state : Int), preO1 o_ state → VC44 o_ state (fun r => r = run_may o_ state)) : S44 := by
  intro w χ o_ state a1 c1   hp h1
  refine (W44 k31 w χ o_ state a1 c1   _ (v o_ state hp) h1).mono ?_
  rintro _ _ _ _ ⟨r, rfl, h⟩
  exact h
def S45 : Prop := ∀ (w : World) (χ : Nat → Nat) (o_ : Api_Object) (l_ : List Api_Oper) (state : Int) (a1 : Option Addr) (c1 : Nat) (a2 : Option Addr) (c2 : Nat) (col1 : Nat) (col2 : Nat) (col3 : Nat) (col4 : Nat) (col5 : Nat), RS tApi_Row w χ a1 o_.Rows c1 → RS tApi_Oper w χ a2 l_ c2 → Ret Try.prog 45 #[.agg #[.int .i64 o_.States, .int .i64 o_.Kinds, .int .i64 o_.Init, .slice a1 o_.Rows.length c1], .slice a2 l_.length c2, .int .i64 state] xnone w χ (fun w χ' v => ∃ (ra1 : Option Addr) (rc1 : Nat) (rr2 : Nat) (ra3 : Option Addr) (rc3 : Nat) (rb1 : Nat) (rb2 : Nat) (rb3 : Nat) (rb4 : Nat), v = .func (.func 68) #[] #[.pointer (some ⟨rb1, 0, none⟩), .pointer (some ⟨rb2, 0, none⟩), .pointer (some ⟨rb3, 0, none⟩), .pointer (some ⟨rb4, 0, none⟩)] ∧ RS tApi_Oper w χ' ra1 ((run_runner o_ l_ state).1) rc1 ∧ RS tApi_Row w χ' ra3 (((run_runner o_ l_ state).2.2.1).Rows) rc3 ∧ Cell w χ' rb1 col2 25 [.slice ra1 ((run_runner o_ l_ state).1).length rc1] ∧ Cell w χ' rb2 col3 85 [.map (some rr2)] ∧ OM kI tI false w χ' col1 rr2 ((run_runner o_ l_ state).2.1) ∧ Cell w χ' rb3 col4 24 [.int .i64 (((run_runner o_ l_ state).2.2.1).States), .int .i64 (((run_runner o_ l_ state).2.2.1).Kinds), .int .i64 (((run_runner o_ l_ state).2.2.1).Init), .slice ra3 (((run_runner o_ l_ state).2.2.1).Rows).length rc3] ∧ Cell w χ' rb4 col5 3 [.int .i64 ((run_runner o_ l_ state).2.2.2)])
theorem hb45 : hasBody Try.prog 45 = true := by kernel_rfl
/-- replevin/run.runner -/
theorem W45 (w0 : World) (χ0 : Nat → Nat) (o_ : Api_Object) (l_ : List Api_Oper) (state : Int) (a1 : Option Addr) (c1 : Nat) (a2 : Option Addr) (c2 : Nat) (col1 : Nat) (col2 : Nat) (col3 : Nat) (col4 : Nat) (col5 : Nat) (Q : (List Api_Oper) × (List (Int × Int)) × Api_Object × Int → Prop) (hm : VC45 o_ l_ state Q) (h1 : RS tApi_Row w0 χ0 a1 o_.Rows c1) (h2 : RS tApi_Oper w0 χ0 a2 l_ c2) :
    Ret Try.prog 45 #[.agg #[.int .i64 o_.States, .int .i64 o_.Kinds, .int .i64 o_.Init, .slice a1 o_.Rows.length c1], .slice a2 l_.length c2, .int .i64 state] xnone w0 χ0 (fun w χ' v => ∃ r, Q r ∧ ∃ (ra1 : Option Addr) (rc1 : Nat) (rr2 : Nat) (ra3 : Option Addr) (rc3 : Nat) (rb1 : Nat) (rb2 : Nat) (rb3 : Nat) (rb4 : Nat), v = .func (.func 68) #[] #[.pointer (some ⟨rb1, 0, none⟩), .pointer (some ⟨rb2, 0, none⟩), .pointer (some ⟨rb3, 0, none⟩), .pointer (some ⟨rb4, 0, none⟩)] ∧ RS tApi_Oper w χ' ra1 r.1 rc1 ∧ RS tApi_Row w χ' ra3 r.2.2.1.Rows rc3 ∧ Cell w χ' rb1 col2 25 [.slice ra1 r.1.length rc1] ∧ Cell w χ' rb2 col3 85 [.map (some rr2)] ∧ OM kI tI false w χ' col1 rr2 r.2.1 ∧ Cell w χ' rb3 col4 24 [.int .i64 r.2.2.1.States, .int .i64 r.2.2.1.Kinds, .int .i64 r.2.2.1.Init, .slice ra3 r.2.2.1.Rows.length rc3] ∧ Cell w χ' rb4 col5 3 [.int .i64 r.2.2.2]) := by
  unfold VC45 at hm
  replace hm := hm (h1.sm (by kernel_rfl))
  replace hm := hm (h2.sm (by kernel_rfl))
  refine enter Try.func45 rfl (vals := [.agg #[.int .i64 o_.States, .int .i64 o_.Kinds, .int .i64 o_.Init, .slice a1 o_.Rows.length c1], .slice a2 l_.length c2, .int .i64 state]) (by kernel_rfl) ?_
  intro ρ a hS hO hM
  replace h1 := h1.m0 hM
  replace h2 := h2.m0 hM
  clear hM
  refine regM T hS (sp := []) (ks := [3, 4, 5]) (bs := [4, 5, 6]) (sy' := ⟨[(3, Pt 4 0), (4, Pt 5 0), (5, Pt 6 0)], [(4, (24, [I o_.States, I o_.Kinds, I o_.Init, V (.slice a1 o_.Rows.length c1)])), (5, (25, [V (.slice a2 l_.length c2)])), (6, (3, [I state]))]⟩) (by kernel_rfl) ?_
  intro ρ a w107 χ108 hS hE hr
  replace hO := hO.mv hE rfl rfl
  replace h1 := h1.mv hE rfl
  replace h2 := h2.mv hE rfl
  clear hE hr
  refine regO ?_
  refine op1 (mkmap kI tI false 1009 hS (by kernel_rfl) (by kernel_rfl) ?_)
  intro r101 a w102 χ103 hE h104 hS
  replace hO := hO.mv hE rfl rfl
  replace h1 := h1.mv hE rfl
  replace h2 := h2.mv hE rfl
  clear hE
  refine endM T hS (sp := []) (ks := [3, 4, 5, 7]) (bs := [4, 5, 6, 8]) (sy' := ⟨[(3, Pt 4 0), (4, Pt 5 0), (5, Pt 6 0), (7, Pt 8 0)], [(4, (24, [I o_.States, I o_.Kinds, I o_.Init, V (.slice a1 o_.Rows.length c1)])), (5, (25, [V (.slice a2 l_.length c2)])), (6, (3, [I state])), (8, (85, [V (.map (some r101))]))]⟩) (by kernel_rfl) ?_
  intro ρ a w105 χ106 hS hE hr
  replace hO := hO.mv hE rfl rfl
  replace h1 := h1.mv hE rfl
  replace h2 := h2.mv hE rfl
  replace h104 := h104.mv hE rfl rfl
  clear hE hr
  refine regP T hS (sp := []) (ks := [6]) (bs := [4, 5, 6, 8]) (sy' := ⟨[(6, .f (.func 68) [] [.p 5 0, .p 8 0, .p 4 0, .p 6 0])], [(4, (24, [I o_.States, I o_.Kinds, I o_.Init, V (.slice a1 o_.Rows.length c1)])), (5, (25, [V (.slice a2 l_.length c2)])), (6, (3, [I state])), (8, (85, [V (.map (some r101))]))]⟩) (by kernel_rfl) ?_
  intro a hS
  refine wret ?_
  exact fin T hS hO (fun c => (bif Nat.beq c 6 then col5 else (bif Nat.beq c 4 then col4 else (bif Nat.beq c 8 then col3 else (bif Nat.beq c 5 then col2 else (bif Nat.beq c 1009 then col1 else c)))))) rfl (r := [.func (.func 68) #[] #[.pointer (some ⟨ρ 5, 0, none⟩), .pointer (some ⟨ρ 8, 0, none⟩), .pointer (some ⟨ρ 4, 0, none⟩), .pointer (some ⟨ρ 6, 0, none⟩)]]) (by kernel_rfl) (fun χ' hM hC => ⟨(l_, ([] : List (Int × Int)), o_, state), hm, a2, c2, r101, a1, c1, (ρ 5), (ρ 8), (ρ 4), (ρ 6), rfl, h2.m0 hM, h1.m0 hM, ((hS.cell (id := 5) (t := 25) (cs := [V (.slice a2 l_.length c2)]) (by kernel_rfl)).out (f := (fun c => (bif Nat.beq c 6 then col5 else (bif Nat.beq c 4 then col4 else (bif Nat.beq c 8 then col3 else (bif Nat.beq c 5 then col2 else (bif Nat.beq c 1009 then col1 else c))))))) hC (by kernel_rfl) (by kernel_rfl) rfl), ((hS.cell (id := 8) (t := 85) (cs := [V (.map (some r101))]) (by kernel_rfl)).out (f := (fun c => (bif Nat.beq c 6 then col5 else (bif Nat.beq c 4 then col4 else (bif Nat.beq c 8 then col3 else (bif Nat.beq c 5 then col2 else (bif Nat.beq c 1009 then col1 else c))))))) hC (by kernel_rfl) (by kernel_rfl) rfl), (h104.out (f := (fun c => (bif Nat.beq c 6 then col5 else (bif Nat.beq c 4 then col4 else (bif Nat.beq c 8 then col3 else (bif Nat.beq c 5 then col2 else (bif Nat.beq c 1009 then col1 else c))))))) hM hC (by kernel_rfl) (by kernel_rfl)), ((hS.cell (id := 4) (t := 24) (cs := [I o_.States, I o_.Kinds, I o_.Init, V (.slice a1 o_.Rows.length c1)]) (by kernel_rfl)).out (f := (fun c => (bif Nat.beq c 6 then col5 else (bif Nat.beq c 4 then col4 else (bif Nat.beq c 8 then col3 else (bif Nat.beq c 5 then col2 else (bif Nat.beq c 1009 then col1 else c))))))) hC (by kernel_rfl) (by kernel_rfl) rfl), ((hS.cell (id := 6) (t := 3) (cs := [I state]) (by kernel_rfl)).out (f := (fun c => (bif Nat.beq c 6 then col5 else (bif Nat.beq c 4 then col4 else (bif Nat.beq c 8 then col3 else (bif Nat.beq c 5 then col2 else (bif Nat.beq c 1009 then col1 else c))))))) hC (by kernel_rfl) (by kernel_rfl) rfl)⟩)
theorem C45 (v : ∀ (o_ : Api_Object) (l_ : List Api_Oper) (state : Int), VC45 o_ l_ state (fun r => r = run_runner o_ l_ state)) : S45 := by
  intro w χ o_ l_ state a1 c1 a2 c2 col1 col2 col3 col4 col5  h1 h2
  refine (W45 w χ o_ l_ state a1 c1 a2 c2 col1 col2 col3 col4 col5  _ (v o_ l_ state) h1 h2).mono ?_
  rintro _ _ _ _ ⟨r, rfl, h⟩
  exact h
def S69 : Prop := ∀ (w : World) (χ : Nat → Nat) (r_ : Api_Row) (cap1 : Int) (cap2 : Int) (b1 : Nat) (i1 : Nat) (b2 : Nat) (i2 : Nat), Cell w χ b1 i1 3 [.int .i64 cap1] → Cell w χ b2 i2 3 [.int .i64 cap2] → Apart [i1, i2] → Ret Try.prog 69 #[.agg #[.int .i64 r_.State, .int .i64 r_.Kind, .int .i64 r_.Next, .int .i64 r_.Result], .pointer (some ⟨b1, 0, none⟩), .pointer (some ⟨b2, 0, none⟩)] (pR [i1, i2]) w χ (fun w χ' v => v = .bool (object_Move_1 r_ cap1 cap2) ∧ Cell w χ' b1 i1 3 [.int .i64 cap1] ∧ Cell w χ' b2 i2 3 [.int .i64 cap2])
theorem hb69 : hasBody Try.prog 69 = true := by kernel_rfl
/-- replevin/object.Move$1 -/
theorem W69 (w0 : World) (χ0 : Nat → Nat) (r_ : Api_Row) (cap1 : Int) (cap2 : Int) (b1 : Nat) (i1 : Nat) (b2 : Nat) (i2 : Nat) (Q : Bool → Prop) (hm : VC69 r_ cap1 cap2 Q) (hc1 : Cell w0 χ0 b1 i1 3 [.int .i64 cap1]) (hc2 : Cell w0 χ0 b2 i2 3 [.int .i64 cap2]) (hA : Apart [i1, i2]) :
    Ret Try.prog 69 #[.agg #[.int .i64 r_.State, .int .i64 r_.Kind, .int .i64 r_.Next, .int .i64 r_.Result], .pointer (some ⟨b1, 0, none⟩), .pointer (some ⟨b2, 0, none⟩)] (pR [i1, i2]) w0 χ0 (fun w χ' v => ∃ r, Q r ∧ v = .bool r ∧ Cell w χ' b1 i1 3 [.int .i64 cap1] ∧ Cell w χ' b2 i2 3 [.int .i64 cap2]) := by
  unfold VC69 at hm
  refine enterR Try.func69 rfl (f0of [(i1, 901), (i2, 902)]) (fun id => (bif Nat.beq id 901 then b1 else (bif Nat.beq id 902 then b2 else 0))) (args := [V (.agg #[.int .i64 r_.State, .int .i64 r_.Kind, .int .i64 r_.Next, .int .i64 r_.Result]), Pt 901 0, Pt 902 0]) (bxs := [(901, (3, [I cap1])), (902, (3, [I cap2]))]) (by kernel_rfl) rfl (BoxesOK.cons (by kernel_rfl) (hc1.map (f0of_at 0 hA.1 rfl)) (BoxesOK.cons (by kernel_rfl) (hc2.map (f0of_at 1 hA.1 rfl)) BoxesOK.nil)) (f0of_0 (fun q hq => (hA.2 q.1 (List.mem_map.2 ⟨q, hq, rfl⟩)).1)) ?_
  intro a hS hO hM
  have hP : Pin [(901, b1), (902, b2)] (fun id => (bif Nat.beq id 901 then b1 else (bif Nat.beq id 902 then b2 else 0))) := by intro q hq; simp at hq; rcases hq with rfl | rfl <;> rfl
  generalize (fun id => (bif Nat.beq id 901 then b1 else (bif Nat.beq id 902 then b2 else 0))) = ρ at hS hP
  clear hc1 hc2
  clear hM
  refine regM T hS (sp := []) (ks := [1, 2, 3]) (bs := [4, 901, 902]) (sy' := ⟨[(1, Pt 901 0), (2, Pt 902 0), (3, Pt 4 0)], [(4, (102, [I r_.State, I r_.Kind, I r_.Next, I r_.Result])), (901, (3, [I cap1])), (902, (3, [I cap2]))]⟩) (by kernel_rfl) ?_
  intro ρ a w101 χ102 hS hE hr
  replace hO := hO.mv hE rfl rfl
  replace hP := hP.mv hr (by kernel_rfl)
  clear hE hr
  refine regO ?_
  refine opsP T hS 8 (sp := []) (ks := [5, 12]) (bs := [901, 902]) (sy' := ⟨[(5, V (.agg #[.int .i64 r_.State, .int .i64 r_.Kind, .int .i64 r_.Next, .int .i64 r_.Result])), (12, V (.agg #[.int .i64 cap1, .int .i64 cap2, .int .i64 r_.Next, .int .i64 r_.Result]))], [(901, (3, [I cap1])), (902, (3, [I cap2]))]⟩) (by kernel_rfl) ?_
  intro a hS
  refine op1 (structEq (op := .eql) (xs := [.int .i64 r_.State, .int .i64 r_.Kind, .int .i64 r_.Next, .int .i64 r_.Result]) (ys := [.int .i64 cap1, .int .i64 cap2, .int .i64 r_.Next, .int .i64 r_.Result]) (r := (r_.State == cap1 && (r_.Kind == cap2 && (r_.Next == r_.Next && (r_.Result == r_.Result && true))))) (b := (r_.State == cap1 && (r_.Kind == cap2 && (r_.Next == r_.Next && (r_.Result == r_.Result && true))))) T hS (by kernel_rfl) (by kernel_rfl) (by kernel_rfl) (by kernel_rfl) (by kernel_rfl) (by kernel_rfl) (by kernel_rfl) (by kernel_rfl) ?_)
  intro a hS
  refine endP T hS (sp := []) (ks := [4]) (bs := [901, 902]) (sy' := ⟨[(4, B (r_.State == cap1 && (r_.Kind == cap2 && (r_.Next == r_.Next && (r_.Result == r_.Result && true)))))], [(901, (3, [I cap1])), (902, (3, [I cap2]))]⟩) (by kernel_rfl) ?_
  intro a hS
  refine wret ?_
  exact finR T hS hO (fun c h => f0of_zero (by kernel_rfl) h) (fun c h => f0of_else (l := [(i1, 901), (i2, 902)]) h) (f1of [(i1, 901), (i2, 902)]) rfl (r := [.bool (r_.State == cap1 && (r_.Kind == cap2 && (r_.Next == r_.Next && (r_.Result == r_.Result && true))))]) (by kernel_rfl) (fun χ' hM hC => ⟨(r_.State == cap1 && (r_.Kind == cap2 && (r_.Next == r_.Next && (r_.Result == r_.Result && true)))), hm, rfl, ((hS.cell (id := 901) (t := 3) (cs := [I cap1]) (by kernel_rfl)).out (f := (f1of [(i1, 901), (i2, 902)])) hC (by kernel_rfl) (by kernel_rfl) (hP.at 0 rfl)), ((hS.cell (id := 902) (t := 3) (cs := [I cap2]) (by kernel_rfl)).out (f := (f1of [(i1, 901), (i2, 902)])) hC (by kernel_rfl) (by kernel_rfl) (hP.at 1 rfl))⟩)
theorem C69 (v : ∀ (r_ : Api_Row) (cap1 : Int) (cap2 : Int), VC69 r_ cap1 cap2 (fun r => r = object_Move_1 r_ cap1 cap2)) : S69 := by
  intro w χ r_ cap1 cap2   b1 i1 b2 i2 hc1 hc2 hA
  refine (W69 w χ r_ cap1 cap2   b1 i1 b2 i2 _ (v r_ cap1 cap2) hc1 hc2 hA).mono ?_
  rintro _ _ _ _ ⟨r, rfl, h⟩
  exact h
def S70_69 : Prop := ∀ (w : World) (χ : Nat → Nat) (s_ : List Api_Row) (cap1 : Int) (cap2 : Int) (a1 : Option Addr) (c1 : Nat) (b1 : Nat) (i1 : Nat) (b2 : Nat) (i2 : Nat), RS tApi_Row w χ a1 s_ c1 → Cell w χ b1 i1 3 [.int .i64 cap1] → Cell w χ b2 i2 3 [.int .i64 cap2] → Apart [i1, i2] → Ret Try.prog 70 #[.slice a1 s_.length c1, .func (.func 69) #[] #[.pointer (some ⟨b1, 0, none⟩), .pointer (some ⟨b2, 0, none⟩)]] (pR [i1, i2]) w χ (fun w χ' v => v = .int .i64 (slices_IndexFunc_api_Row_api_Row_object_Move_1 s_ cap1 cap2) ∧ Cell w χ' b1 i1 3 [.int .i64 cap1] ∧ Cell w χ' b2 i2 3 [.int .i64 cap2])
theorem hb70 : hasBody Try.prog 70 = true := by kernel_rfl
/-- slices.IndexFunc[[]replevin/api.Row,replevin/api.Row] -/
theorem W70_69 (k69 : S69) (w0 : World) (χ0 : Nat → Nat) (s_ : List Api_Row) (cap1 : Int) (cap2 : Int) (a1 : Option Addr) (c1 : Nat) (b1 : Nat) (i1 : Nat) (b2 : Nat) (i2 : Nat) (Q : Int → Prop) (hm : VC70_69 s_ cap1 cap2 Q) (h1 : RS tApi_Row w0 χ0 a1 s_ c1) (hc1 : Cell w0 χ0 b1 i1 3 [.int .i64 cap1]) (hc2 : Cell w0 χ0 b2 i2 3 [.int .i64 cap2]) (hA : Apart [i1, i2]) :
    Ret Try.prog 70 #[.slice a1 s_.length c1, .func (.func 69) #[] #[.pointer (some ⟨b1, 0, none⟩), .pointer (some ⟨b2, 0, none⟩)]] (pR [i1, i2]) w0 χ0 (fun w χ' v => ∃ r, Q r ∧ v = .int .i64 r ∧ Cell w χ' b1 i1 3 [.int .i64 cap1] ∧ Cell w χ' b2 i2 3 [.int .i64 cap2]) := by
  unfold VC70_69 at hm
  replace hm := hm (h1.sm (by kernel_rfl))
  refine enterR Try.func70 rfl (f0of [(i1, 901), (i2, 902)]) (fun id => (bif Nat.beq id 901 then b1 else (bif Nat.beq id 902 then b2 else 0))) (args := [V (.slice a1 s_.length c1), .f (.func 69) [] [.p 901 0, .p 902 0]]) (bxs := [(901, (3, [I cap1])), (902, (3, [I cap2]))]) (by kernel_rfl) rfl (BoxesOK.cons (by kernel_rfl) (hc1.map (f0of_at 0 hA.1 rfl)) (BoxesOK.cons (by kernel_rfl) (hc2.map (f0of_at 1 hA.1 rfl)) BoxesOK.nil)) (f0of_0 (fun q hq => (hA.2 q.1 (List.mem_map.2 ⟨q, hq, rfl⟩)).1)) ?_
  intro a hS hO hM
  have hP : Pin [(901, b1), (902, b2)] (fun id => (bif Nat.beq id 901 then b1 else (bif Nat.beq id 902 then b2 else 0))) := by intro q hq; simp at hq; rcases hq with rfl | rfl <;> rfl
  generalize (fun id => (bif Nat.beq id 901 then b1 else (bif Nat.beq id 902 then b2 else 0))) = ρ at hS hP
  clear hc1 hc2
  replace h1 := h1.m0 hM
  clear hM
  refine regP T hS (sp := []) (ks := [0, 1]) (bs := [901, 902]) (sy' := ⟨[(0, V (.slice a1 s_.length c1)), (1, .f (.func 69) [] [.p 901 0, .p 902 0])], [(901, (3, [I cap1])), (902, (3, [I cap2]))]⟩) (by kernel_rfl) ?_
  intro a hS
  refine wcut (fun a w => ∃ (ρ : Nat → Nat) (χ : Nat → Nat), VC70_69_J1 Q ∧ St Try.f70.ntmps ⟨[], [(901, (3, [I cap1])), (902, (3, [I cap2]))]⟩ ρ a w χ ∧ OldR (f0of [(i1, 901), (i2, 902)]) w0 χ0 w χ ∧ Pin [(901, b1), (902, b2)] ρ) ?_ ?_
  · refine regP T hS (sp := []) (ks := [0, 1, 7, 8]) (bs := [901, 902]) (sy' := ⟨[(0, V (.slice a1 s_.length c1)), (1, .f (.func 69) [] [.p 901 0, .p 902 0]), (7, I ((s_.length : Nat) : Int)), (8, I 0)], [(901, (3, [I cap1])), (902, (3, [I cap2]))]⟩) (by kernel_rfl) ?_
    intro a hS
    refine wblock ?_
    obtain ⟨I1, μ1, hm0, hm⟩ := hm
    refine wloop (σ := Int) (fun s a w => ∃ (ρ : Nat → Nat) (χ : Nat → Nat), I1 s ∧ St Try.f70.ntmps ⟨[(0, V (.slice a1 s_.length c1)), (1, .f (.func 69) [] [.p 901 0, .p 902 0]), (7, I ((s_.length : Nat) : Int)), (8, I s)], [(901, (3, [I cap1])), (902, (3, [I cap2]))]⟩ ρ a w χ ∧ OldR (f0of [(i1, 901), (i2, 902)]) w0 χ0 w χ ∧ Pin [(901, b1), (902, b2)] ρ ∧ RS tApi_Row w χ a1 s_ c1) (fun s => μ1 s) (0) ?_ ?_
    · exact ⟨ρ, _, hm0, hS.sel [0, 1, 7, 8] [901, 902] (by kernel_rfl), hO, hP, h1⟩
    · rintro x_102 a w113 ⟨ρ, χ112, hI, hS, hO, hP, h101⟩
      replace hm := hm x_102 hI
      clear hI hm0
      refine regP T hS (sp := []) (ks := [0, 1, 7, 8, 9]) (bs := [901, 902]) (sy' := ⟨[(0, V (.slice a1 s_.length c1)), (1, .f (.func 69) [] [.p 901 0, .p 902 0]), (7, I ((s_.length : Nat) : Int)), (8, I x_102), (9, B (decide (x_102 < ((s_.length : Nat) : Int))))], [(901, (3, [I cap1])), (902, (3, [I cap2]))]⟩) (by kernel_rfl) ?_
      intro a hS
      refine wseq ?_
      refine wcond hS (b := decide (x_102 < ((s_.length : Nat) : Int))) (by kernel_rfl) (fun hb => ?_) (fun hb => ?_)
      · replace hm := hm.1 hb
        refine wskip ?_
        refine wseq ?_
        refine wblock ?_
        refine regP T hS (sp := []) (ks := [0, 1, 5, 7, 8]) (bs := [901, 902]) (sy' := ⟨[(0, V (.slice a1 s_.length c1)), (1, .f (.func 69) [] [.p 901 0, .p 902 0]), (5, I x_102), (7, I ((s_.length : Nat) : Int)), (8, I x_102)], [(901, (3, [I cap1])), (902, (3, [I cap2]))]⟩) (by kernel_rfl) ?_
        intro a hS
        refine regO ?_
        refine opsP T hS 3 (sp := []) (ks := [0, 1, 5, 7, 8, 11, 12, 13]) (bs := [901, 902]) (sy' := ⟨[(0, V (.slice a1 s_.length c1)), (1, .f (.func 69) [] [.p 901 0, .p 902 0]), (5, I x_102), (7, I ((s_.length : Nat) : Int)), (8, I x_102), (11, .f (.func 69) [] [.p 901 0, .p 902 0]), (12, V (.slice a1 s_.length c1)), (13, I x_102)], [(901, (3, [I cap1])), (902, (3, [I cap2]))]⟩) (by kernel_rfl) ?_
        intro a hS
        obtain ⟨hq, hm⟩ := hm
        refine op1 (index (e := 102) (k := .i64) T hS (by kernel_rfl) (by kernel_rfl) (by kernel_rfl) (by kernel_rfl) h101 (by kernel_rfl) (by kernel_rfl) hq.1 hq.2 ?_)
        intro A103 a h104 hS
        clear hq
        refine op1 (loadA T hS (by kernel_rfl) (by kernel_rfl) (by kernel_rfl) h104 (by kernel_rfl) (by kernel_rfl) ?_)
        intro v105 a hv hS
        subst hv
        refine op1 (callCR (fi := []) (cp := [.p 901 0, .p 902 0]) hS (by kernel_rfl) (by kernel_rfl) hb69 (by kernel_rfl) (by kernel_rfl) (k69 _ _ (gi s_ x_102) cap1 cap2 (ρ 901) 901 (ρ 902) 902 (hS.cell (id := 901) (t := 3) (cs := [I cap1]) (by kernel_rfl)) (hS.cell (id := 902) (t := 3) (cs := [I cap2]) (by kernel_rfl)) ⟨by decide, by decide⟩) ?_)
        intro v106 a w107 χ108 hE hp hS
        replace hO := hO.mv hE rfl rfl
        replace h101 := h101.mv hE rfl
        replace h104 := h104.mv hE rfl
        clear hE
        obtain ⟨hp, hc110, hc111⟩ := hp
        obtain ⟨r109, hr⟩ : ∃ r, object_Move_1 (gi s_ x_102) cap1 cap2 = r := ⟨_, rfl⟩
        replace hm := hm r109 hr
        rw [hr] at hp
        clear hr
        subst hp
        replace hS := hS.addbox (id := 901) (t := 3) (cs := [I cap1]) (by kernel_rfl) hc110
        replace hS := hS.addbox (id := 902) (t := 3) (cs := [I cap2]) (by kernel_rfl) hc111
        clear hc110 hc111
        refine doneK ?_
        refine wcond hS (b := r109) (by kernel_rfl) (fun hb => ?_) (fun hb => ?_)
        · replace hm := hm.1 hb
          refine regP T hS (sp := []) (ks := [4]) (bs := [901, 902]) (sy' := ⟨[(4, I x_102)], [(901, (3, [I cap1])), (902, (3, [I cap2]))]⟩) (by kernel_rfl) ?_
          intro a hS
          refine wret ?_
          exact finR T hS hO (fun c h => f0of_zero (by kernel_rfl) h) (fun c h => f0of_else (l := [(i1, 901), (i2, 902)]) h) (f1of [(i1, 901), (i2, 902)]) rfl (r := [.int .i64 x_102]) (by kernel_rfl) (fun χ' hM hC => ⟨x_102, hm, rfl, ((hS.cell (id := 901) (t := 3) (cs := [I cap1]) (by kernel_rfl)).out (f := (f1of [(i1, 901), (i2, 902)])) hC (by kernel_rfl) (by kernel_rfl) (hP.at 0 rfl)), ((hS.cell (id := 902) (t := 3) (cs := [I cap2]) (by kernel_rfl)).out (f := (f1of [(i1, 901), (i2, 902)])) hC (by kernel_rfl) (by kernel_rfl) (hP.at 1 rfl))⟩)
        · replace hm := hm.2 hb
          refine wskip ?_
          refine region (endP T hS (sp := []) (ks := [0, 1, 7, 8]) (bs := [901, 902]) (sy' := ⟨[(0, V (.slice a1 s_.length c1)), (1, .f (.func 69) [] [.p 901 0, .p 902 0]), (7, I ((s_.length : Nat) : Int)), (8, I (IntKind.i64.wrap (x_102 + 1)))], [(901, (3, [I cap1])), (902, (3, [I cap2]))]⟩) (by kernel_rfl) ?_)
          intro a hS
          exact ⟨IntKind.i64.wrap (x_102 + 1), ⟨ρ, _, hm.1, hS.sel [0, 1, 7, 8] [901, 902] (by kernel_rfl), hO, hP, h101⟩, hm.2⟩
      · replace hm := hm.2 hb
        refine wexit (by rfl) ?_
        exact ⟨ρ, _, hm, hS.sel [] [901, 902] (by kernel_rfl), hO, hP⟩
  · rintro a w115 ⟨ρ, χ114, hm, hS, hO, hP⟩
    unfold VC70_69_J1 at hm
    refine regP T hS (sp := []) (ks := [4]) (bs := [901, 902]) (sy' := ⟨[(4, I (-1))], [(901, (3, [I cap1])), (902, (3, [I cap2]))]⟩) (by kernel_rfl) ?_
    intro a hS
    refine wret ?_
    exact finR T hS hO (fun c h => f0of_zero (by kernel_rfl) h) (fun c h => f0of_else (l := [(i1, 901), (i2, 902)]) h) (f1of [(i1, 901), (i2, 902)]) rfl (r := [.int .i64 (-1)]) (by kernel_rfl) (fun χ' hM hC => ⟨(-1), hm, rfl, ((hS.cell (id := 901) (t := 3) (cs := [I cap1]) (by kernel_rfl)).out (f := (f1of [(i1, 901), (i2, 902)])) hC (by kernel_rfl) (by kernel_rfl) (hP.at 0 rfl)), ((hS.cell (id := 902) (t := 3) (cs := [I cap2]) (by kernel_rfl)).out (f := (f1of [(i1, 901), (i2, 902)])) hC (by kernel_rfl) (by kernel_rfl) (hP.at 1 rfl))⟩)
theorem C70_69 (k69 : S69) (v : ∀ (s_ : List Api_Row) (cap1 : Int) (cap2 : Int), VC70_69 s_ cap1 cap2 (fun r => r = slices_IndexFunc_api_Row_api_Row_object_Move_1 s_ cap1 cap2)) : S70_69 := by
  intro w χ s_ cap1 cap2 a1 c1  b1 i1 b2 i2 h1 hc1 hc2 hA
  refine (W70_69 k69 w χ s_ cap1 cap2 a1 c1  b1 i1 b2 i2 _ (v s_ cap1 cap2) h1 hc1 hc2 hA).mono ?_
  rintro _ _ _ _ ⟨r, rfl, h⟩
  exact h
def S48 : Prop := ∀ (w : World) (χ : Nat → Nat) (o_ : Api_Object) (state : Int) (kind : Int) (a1 : Option Addr) (c1 : Nat), RS tApi_Row w χ a1 o_.Rows c1 → Ret Try.prog 48 #[.agg #[.int .i64 o_.States, .int .i64 o_.Kinds, .int .i64 o_.Init, .slice a1 o_.Rows.length c1], .int .i64 state, .int .i64 kind] xnone w χ (fun w χ' v => v = .tuple #[.int .i64 ((object_Move o_ state kind).1), .int .i64 ((object_Move o_ state kind).2.1), .bool ((object_Move o_ state kind).2.2)])
theorem hb48 : hasBody Try.prog 48 = true := by kernel_rfl
/-- replevin/object.Move -/
theorem W48 (k70_69 : S70_69) (w0 : World) (χ0 : Nat → Nat) (o_ : Api_Object) (state : Int) (kind : Int) (a1 : Option Addr) (c1 : Nat) (Q : Int × Int × Bool → Prop) (hm : VC48 o_ state kind Q) (h1 : RS tApi_Row w0 χ0 a1 o_.Rows c1) :
    Ret Try.prog 48 #[.agg #[.int .i64 o_.States, .int .i64 o_.Kinds, .int .i64 o_.Init, .slice a1 o_.Rows.length c1], .int .i64 state, .int .i64 kind] xnone w0 χ0 (fun w χ' v => ∃ r, Q r ∧ v = .tuple #[.int .i64 r.1, .int .i64 r.2.1, .bool r.2.2]) := by
  unfold VC48 at hm
  replace hm := hm (h1.sm (by kernel_rfl))
  refine enter Try.func48 rfl (vals := [.agg #[.int .i64 o_.States, .int .i64 o_.Kinds, .int .i64 o_.Init, .slice a1 o_.Rows.length c1], .int .i64 state, .int .i64 kind]) (by kernel_rfl) ?_
  intro ρ a hS hO hM
  replace h1 := h1.m0 hM
  clear hM
  refine regM T hS (sp := []) (ks := [3, 4, 5]) (bs := [4, 5, 6]) (sy' := ⟨[(3, Pt 4 0), (4, Pt 5 0), (5, Pt 6 0)], [(4, (24, [I o_.States, I o_.Kinds, I o_.Init, V (.slice a1 o_.Rows.length c1)])), (5, (3, [I state])), (6, (3, [I kind]))]⟩) (by kernel_rfl) ?_
  intro ρ a w119 χ120 hS hE hr
  replace hO := hO.mv hE rfl rfl
  replace h1 := h1.mv hE rfl
  clear hE hr
  refine regP T hS (sp := []) (ks := [3, 9]) (bs := [4, 5, 6]) (sy' := ⟨[(3, Pt 4 0), (9, .f (.func 69) [] [.p 5 0, .p 6 0])], [(4, (24, [I o_.States, I o_.Kinds, I o_.Init, V (.slice a1 o_.Rows.length c1)])), (5, (3, [I state])), (6, (3, [I kind]))]⟩) (by kernel_rfl) ?_
  intro a hS
  refine regO ?_
  refine opsP T hS 3 (sp := []) (ks := [3, 13, 14]) (bs := [4, 5, 6]) (sy' := ⟨[(3, Pt 4 0), (13, V (.slice a1 o_.Rows.length c1)), (14, .f (.func 69) [] [.p 5 0, .p 6 0])], [(4, (24, [I o_.States, I o_.Kinds, I o_.Init, V (.slice a1 o_.Rows.length c1)])), (5, (3, [I state])), (6, (3, [I kind]))]⟩) (by kernel_rfl) ?_
  intro a hS
  refine op1 (callR hS (by kernel_rfl) (by kernel_rfl) hb70 (by kernel_rfl) (k70_69 _ _ o_.Rows state kind a1 c1 (ρ 5) 5 (ρ 6) 6 h1 (hS.cell (id := 5) (t := 3) (cs := [I state]) (by kernel_rfl)) (hS.cell (id := 6) (t := 3) (cs := [I kind]) (by kernel_rfl)) ⟨by decide, by decide⟩) ?_)
  intro v101 a w102 χ103 hE hp hS
  replace hO := hO.mv hE rfl rfl
  replace h1 := h1.mv hE rfl
  clear hE
  obtain ⟨hp, hc105, hc106⟩ := hp
  obtain ⟨r104, hr⟩ : ∃ r, slices_IndexFunc_api_Row_api_Row_object_Move_1 o_.Rows state kind = r := ⟨_, rfl⟩
  replace hm := hm r104 hr
  rw [hr] at hp
  clear hr
  subst hp
  replace hS := hS.addbox (id := 5) (t := 3) (cs := [I state]) (by kernel_rfl) hc105
  replace hS := hS.addbox (id := 6) (t := 3) (cs := [I kind]) (by kernel_rfl) hc106
  clear hc105 hc106
  refine endP T hS (sp := []) (ks := [3, 10]) (bs := [4]) (sy' := ⟨[(3, Pt 4 0), (10, I r104)], [(4, (24, [I o_.States, I o_.Kinds, I o_.Init, V (.slice a1 o_.Rows.length c1)]))]⟩) (by kernel_rfl) ?_
  intro a hS
  refine wseq ?_
  refine regP T hS (sp := []) (ks := [3, 10, 17]) (bs := [4]) (sy' := ⟨[(3, Pt 4 0), (10, I r104), (17, B (decide (r104 < 0)))], [(4, (24, [I o_.States, I o_.Kinds, I o_.Init, V (.slice a1 o_.Rows.length c1)]))]⟩) (by kernel_rfl) ?_
  intro a hS
  refine wcond hS (b := decide (r104 < 0)) (by kernel_rfl) (fun hb => ?_) (fun hb => ?_)
  · replace hm := hm.1 hb
    refine regP T hS (sp := []) (ks := [6, 7, 8]) (bs := []) (sy' := ⟨[(6, I 0), (7, I 0), (8, B false)], []⟩) (by kernel_rfl) ?_
    intro a hS
    refine wret ?_
    exact fin T hS hO (fun c => c) rfl (r := [.int .i64 0, .int .i64 0, .bool false]) (by kernel_rfl) (fun χ' hM hC => ⟨(0, 0, false), hm, rfl⟩)
  · replace hm := hm.2 hb
    refine wskip ?_
    refine drawnSX [4] mixed hS ?_
    intro w107 χ108 hS hE hD hH
    replace hO := hO.mv hE rfl rfl
    replace h1 := h1.mv hE rfl
    clear hE
    refine take T [0, 2, 6, 8, 1, 7] [4] [19, 20, 25, 26] hS (by kernel_rfl) (by kernel_rfl) (by kernel_rfl) hH (listed' := #[true, true, true, false, false, false, true, true, true, false, false, false, false, false, false]) (fuel := 9) (sy' := ⟨[(19, V (.slice a1 o_.Rows.length c1)), (20, I r104), (25, V (.slice a1 o_.Rows.length c1)), (26, I r104)], [(4, (24, [I o_.States, I o_.Kinds, I o_.Init, V (.slice a1 o_.Rows.length c1)]))]⟩) (by kernel_rfl) (by rfl) ?_
    intro a hS
    obtain ⟨hq, hm⟩ := hm
    refine dindex (e := 102) (k := .i64) T 3 hS (by kernel_rfl) (by kernel_rfl) (by kernel_rfl) (by rfl) (by kernel_rfl) hH (by kernel_rfl) (by kernel_rfl) h1 (by kernel_rfl) (by kernel_rfl) hq.1 hq.2 ?_
    intro A109 a h110 hS
    clear hq
    have h110b := h110.here
    refine dfieldA (off := 2) (fsz := 1) (ft := 3) (TF := tI) (y := (gi o_.Rows r104).Next) 4 T hS (by kernel_rfl) (by kernel_rfl) (by kernel_rfl) (by rfl) (by kernel_rfl) hH (by kernel_rfl) h110 (by kernel_rfl) (by kernel_rfl) (by kernel_rfl) (fun cs h => Api_Row_f2 h) ?_
    intro A111 a h112 hbl hS
    have h112b := h110b
    rw [← hbl] at h112b
    clear hbl
    refine dload1 T 5 hS (by kernel_rfl) (by kernel_rfl) (by kernel_rfl) (by rfl) (by kernel_rfl) hH (by kernel_rfl) h112 h112b rfl (by kernel_rfl) ?_
    intro v113 a hv hS
    cases hv
    refine take T [12] [4] [6, 25, 26] hS (by kernel_rfl) (by kernel_rfl) (by kernel_rfl) hH (listed' := #[true, true, true, true, true, true, true, true, true, false, false, false, true, false, false]) (fuel := 5) (sy' := ⟨[(6, I ((gi o_.Rows r104).Next)), (25, V (.slice a1 o_.Rows.length c1)), (26, I r104)], [(4, (24, [I o_.States, I o_.Kinds, I o_.Init, V (.slice a1 o_.Rows.length c1)]))]⟩) (by kernel_rfl) (by rfl) ?_
    intro a hS
    obtain ⟨hq, hm⟩ := hm
    refine dindex (e := 102) (k := .i64) T 9 hS (by kernel_rfl) (by kernel_rfl) (by kernel_rfl) (by rfl) (by kernel_rfl) hH (by kernel_rfl) (by kernel_rfl) h1 (by kernel_rfl) (by kernel_rfl) hq.1 hq.2 ?_
    intro A114 a h115 hS
    clear hq
    have h115b := h115.here
    refine dfieldA (off := 3) (fsz := 1) (ft := 3) (TF := tI) (y := (gi o_.Rows r104).Result) 10 T hS (by kernel_rfl) (by kernel_rfl) (by kernel_rfl) (by rfl) (by kernel_rfl) hH (by kernel_rfl) h115 (by kernel_rfl) (by kernel_rfl) (by kernel_rfl) (fun cs h => Api_Row_f3 h) ?_
    intro A116 a h117 hbl hS
    have h117b := h115b
    rw [← hbl] at h117b
    clear hbl
    refine dload1 T 11 hS (by kernel_rfl) (by kernel_rfl) (by kernel_rfl) (by rfl) (by kernel_rfl) hH (by kernel_rfl) h117 h117b rfl (by kernel_rfl) ?_
    intro v118 a hv hS
    cases hv
    refine take T [13, 14] [4] [6, 7, 8] hS (by kernel_rfl) (by kernel_rfl) (by kernel_rfl) hH (listed' := #[true, true, true, true, true, true, true, true, true, true, true, true, true, true, true]) (fuel := 0) (sy' := ⟨[(6, I ((gi o_.Rows r104).Next)), (7, I ((gi o_.Rows r104).Result)), (8, B true)], [(4, (24, [I o_.States, I o_.Kinds, I o_.Init, V (.slice a1 o_.Rows.length c1)]))]⟩) (by kernel_rfl) (by rfl) ?_
    intro a hS
    refine drawnDone (by kernel_rfl) ?_
    clear hD hH
    replace hS := hS.sel [6, 7, 8] [] (sy' := ⟨[(6, I ((gi o_.Rows r104).Next)), (7, I ((gi o_.Rows r104).Result)), (8, B true)], []⟩) (by kernel_rfl)
    refine wret ?_
    exact fin T hS hO (fun c => c) rfl (r := [.int .i64 ((gi o_.Rows r104).Next), .int .i64 ((gi o_.Rows r104).Result), .bool true]) (by kernel_rfl) (fun χ' hM hC => ⟨((gi o_.Rows r104).Next, (gi o_.Rows r104).Result, true), hm, rfl⟩)
theorem C48 (k70_69 : S70_69) (v : ∀ (o_ : Api_Object) (state : Int) (kind : Int), VC48 o_ state kind (fun r => r = object_Move o_ state kind)) : S48 := by
  intro w χ o_ state kind a1 c1   h1
  refine (W48 k70_69 w χ o_ state kind a1 c1   _ (v o_ state kind) h1).mono ?_
  rintro _ _ _ _ ⟨r, rfl, h⟩
  exact h
def S46 : Prop := ∀ (w : World) (χ : Nat → Nat) (t_ : Run_table) (state : Int) (kind : Int) (a1 : Option Addr) (c1 : Nat), RS tApi_Row w χ a1 t_.o.Rows c1 → Ret Try.prog 46 #[.agg #[.int .i64 t_.o.States, .int .i64 t_.o.Kinds, .int .i64 t_.o.Init, .slice a1 t_.o.Rows.length c1], .int .i64 state, .int .i64 kind] xnone w χ (fun w χ' v => v = .tuple #[.int .i64 ((run_table_move t_ state kind).1), .int .i64 ((run_table_move t_ state kind).2.1), .bool ((run_table_move t_ state kind).2.2)])
theorem hb46 : hasBody Try.prog 46 = true := by kernel_rfl
/-- (replevin/run.table).move -/
theorem W46 (k48 : S48) (w0 : World) (χ0 : Nat → Nat) (t_ : Run_table) (state : Int) (kind : Int) (a1 : Option Addr) (c1 : Nat) (Q : Int × Int × Bool → Prop) (hm : VC46 t_ state kind Q) (h1 : RS tApi_Row w0 χ0 a1 t_.o.Rows c1) :
    Ret Try.prog 46 #[.agg #[.int .i64 t_.o.States, .int .i64 t_.o.Kinds, .int .i64 t_.o.Init, .slice a1 t_.o.Rows.length c1], .int .i64 state, .int .i64 kind] xnone w0 χ0 (fun w χ' v => ∃ r, Q r ∧ v = .tuple #[.int .i64 r.1, .int .i64 r.2.1, .bool r.2.2]) := by
  unfold VC46 at hm
  replace hm := hm (h1.sm (by kernel_rfl))
  refine enter Try.func46 rfl (vals := [.agg #[.int .i64 t_.o.States, .int .i64 t_.o.Kinds, .int .i64 t_.o.Init, .slice a1 t_.o.Rows.length c1], .int .i64 state, .int .i64 kind]) (by kernel_rfl) ?_
  intro ρ a hS hO hM
  replace h1 := h1.m0 hM
  clear hM
  refine regM T hS (sp := []) (ks := [1, 2, 3]) (bs := [4]) (sy' := ⟨[(1, I state), (2, I kind), (3, Pt 4 0)], [(4, (80, [I t_.o.States, I t_.o.Kinds, I t_.o.Init, V (.slice a1 t_.o.Rows.length c1)]))]⟩) (by kernel_rfl) ?_
  intro ρ a w105 χ106 hS hE hr
  replace hO := hO.mv hE rfl rfl
  replace h1 := h1.mv hE rfl
  clear hE hr
  refine regO ?_
  refine opsP T hS 4 (sp := []) (ks := [10, 11, 12]) (bs := []) (sy' := ⟨[(10, V (.agg #[.int .i64 t_.o.States, .int .i64 t_.o.Kinds, .int .i64 t_.o.Init, .slice a1 t_.o.Rows.length c1])), (11, I state), (12, I kind)], []⟩) (by kernel_rfl) ?_
  intro a hS
  refine op1 (call hS (by kernel_rfl) (by kernel_rfl) hb48 (by kernel_rfl) (fun _ _ => rfl) (k48 _ _ t_.o state kind a1 c1 h1) ?_)
  intro v101 a w102 χ103 hE hp hS
  replace hO := hO.mv hE rfl rfl
  replace h1 := h1.mv hE rfl
  clear hE
  obtain ⟨r104, hr⟩ : ∃ r, object_Move t_.o state kind = r := ⟨_, rfl⟩
  replace hm := hm r104 hr
  rw [hr] at hp
  clear hr
  subst hp
  refine endP T hS (sp := []) (ks := [6, 7, 8]) (bs := []) (sy' := ⟨[(6, I r104.1), (7, I r104.2.1), (8, B r104.2.2)], []⟩) (by kernel_rfl) ?_
  intro a hS
  refine wret ?_
  exact fin T hS hO (fun c => c) rfl (r := [.int .i64 r104.1, .int .i64 r104.2.1, .bool r104.2.2]) (by kernel_rfl) (fun χ' hM hC => ⟨(r104.1, r104.2.1, r104.2.2), hm, rfl⟩)
theorem C46 (k48 : S48) (v : ∀ (t_ : Run_table) (state : Int) (kind : Int), VC46 t_ state kind (fun r => r = run_table_move t_ state kind)) : S46 := by
  intro w χ t_ state kind a1 c1   h1
  refine (W46 k48 w χ t_ state kind a1 c1   _ (v t_ state kind) h1).mono ?_
  rintro _ _ _ _ ⟨r, rfl, h⟩
  exact h
def S17 : Prop := ∀ (w : World) (χ : Nat → Nat) (o_ : Api_Object) (state : Int) (kind : Int) (result : Int) (a1 : Option Addr) (c1 : Nat), RS tApi_Row w χ a1 o_.Rows c1 → Ret Try.prog 17 #[.agg #[.int .i64 o_.States, .int .i64 o_.Kinds, .int .i64 o_.Init, .slice a1 o_.Rows.length c1], .int .i64 state, .int .i64 kind, .int .i64 result] xnone w χ (fun w χ' v => v = .tuple #[.int .i64 ((run_Step o_ state kind result).1), .int .i64 ((run_Step o_ state kind result).2)])
theorem hb17 : hasBody Try.prog 17 = true := by kernel_rfl
/-- replevin/run.Step -/
theorem W17 (k46 : S46) (w0 : World) (χ0 : Nat → Nat) (o_ : Api_Object) (state : Int) (kind : Int) (result : Int) (a1 : Option Addr) (c1 : Nat) (Q : Int × Int → Prop) (hm : VC17 o_ state kind result Q) (h1 : RS tApi_Row w0 χ0 a1 o_.Rows c1) :
    Ret Try.prog 17 #[.agg #[.int .i64 o_.States, .int .i64 o_.Kinds, .int .i64 o_.Init, .slice a1 o_.Rows.length c1], .int .i64 state, .int .i64 kind, .int .i64 result] xnone w0 χ0 (fun w χ' v => ∃ r, Q r ∧ v = .tuple #[.int .i64 r.1, .int .i64 r.2]) := by
  unfold VC17 at hm
  replace hm := hm (h1.sm (by kernel_rfl))
  refine enter Try.func17 rfl (vals := [.agg #[.int .i64 o_.States, .int .i64 o_.Kinds, .int .i64 o_.Init, .slice a1 o_.Rows.length c1], .int .i64 state, .int .i64 kind, .int .i64 result]) (by kernel_rfl) ?_
  intro ρ a hS hO hM
  replace h1 := h1.m0 hM
  clear hM
  refine regM T hS (sp := []) (ks := [1, 2, 3, 4]) (bs := [5]) (sy' := ⟨[(1, I state), (2, I kind), (3, I result), (4, Pt 5 0)], [(5, (24, [I o_.States, I o_.Kinds, I o_.Init, V (.slice a1 o_.Rows.length c1)]))]⟩) (by kernel_rfl) ?_
  intro ρ a w105 χ106 hS hE hr
  replace hO := hO.mv hE rfl rfl
  replace h1 := h1.mv hE rfl
  clear hE hr
  refine wseq ?_
  refine regP T hS (sp := [15]) (ks := [1, 2, 3, 4, 20]) (bs := [5]) (sy' := ⟨[(1, I state), (2, I kind), (3, I result), (4, Pt 5 0), (20, B ((decide (state < 0)) || (decide (state ≥ o_.States))))], [(5, (24, [I o_.States, I o_.Kinds, I o_.Init, V (.slice a1 o_.Rows.length c1)]))]⟩) (by kernel_rfl) ?_
  intro a hS
  refine wcond hS (b := ((decide (state < 0)) || (decide (state ≥ o_.States)))) (by kernel_rfl) (fun hb => ?_) (fun hb => ?_)
  · replace hm := hm.1 hb
    refine regP T hS (sp := []) (ks := [8, 9]) (bs := []) (sy' := ⟨[(8, I 0), (9, I 30)], []⟩) (by kernel_rfl) ?_
    intro a hS
    refine wret ?_
    exact fin T hS hO (fun c => c) rfl (r := [.int .i64 0, .int .i64 30]) (by kernel_rfl) (fun χ' hM hC => ⟨(0, 30), hm, rfl⟩)
  · replace hm := hm.2 hb
    refine wskip ?_
    refine regP T hS (sp := []) (ks := [1, 2, 3, 10]) (bs := []) (sy' := ⟨[(1, I state), (2, I kind), (3, I result), (10, .f (.func 46) [.v (.agg #[.int .i64 o_.States, .int .i64 o_.Kinds, .int .i64 o_.Init, .slice a1 o_.Rows.length c1])] [])], []⟩) (by kernel_rfl) ?_
    intro a hS
    refine regO ?_
    refine opsP T hS 3 (sp := []) (ks := [3, 25, 26, 27]) (bs := []) (sy' := ⟨[(3, I result), (25, .f (.func 46) [.v (.agg #[.int .i64 o_.States, .int .i64 o_.Kinds, .int .i64 o_.Init, .slice a1 o_.Rows.length c1])] []), (26, I state), (27, I kind)], []⟩) (by kernel_rfl) ?_
    intro a hS
    refine op1 (callC (fi := [.v (.agg #[.int .i64 o_.States, .int .i64 o_.Kinds, .int .i64 o_.Init, .slice a1 o_.Rows.length c1])]) (cp := []) hS (by kernel_rfl) (by kernel_rfl) hb46 (by kernel_rfl) (by kernel_rfl) (fun _ _ => rfl) (k46 _ _ (⟨o_⟩ : Run_table) state kind a1 c1 h1) ?_)
    intro v101 a w102 χ103 hE hp hS
    replace hO := hO.mv hE rfl rfl
    replace h1 := h1.mv hE rfl
    clear hE
    obtain ⟨r104, hr⟩ : ∃ r, run_table_move (⟨o_⟩ : Run_table) state kind = r := ⟨_, rfl⟩
    replace hm := hm r104 hr
    rw [hr] at hp
    clear hr
    subst hp
    refine endP T hS (sp := []) (ks := [3, 8, 11, 12]) (bs := []) (sy' := ⟨[(3, I result), (8, I r104.1), (11, I r104.2.1), (12, B r104.2.2)], []⟩) (by kernel_rfl) ?_
    intro a hS
    refine wseq ?_
    refine regP T hS (sp := [34]) (ks := [8, 38]) (bs := []) (sy' := ⟨[(8, I r104.1), (38, B ((!r104.2.2) || (r104.2.1 != result)))], []⟩) (by kernel_rfl) ?_
    intro a hS
    refine wcond hS (b := ((!r104.2.2) || (r104.2.1 != result))) (by kernel_rfl) (fun hb => ?_) (fun hb => ?_)
    · replace hm := hm.1 hb
      refine regP T hS (sp := []) (ks := [8, 9]) (bs := []) (sy' := ⟨[(8, I 0), (9, I 40)], []⟩) (by kernel_rfl) ?_
      intro a hS
      refine wret ?_
      exact fin T hS hO (fun c => c) rfl (r := [.int .i64 0, .int .i64 40]) (by kernel_rfl) (fun χ' hM hC => ⟨(0, 40), hm, rfl⟩)
    · replace hm := hm.2 hb
      refine wskip ?_
      refine regP T hS (sp := []) (ks := [8, 9]) (bs := []) (sy' := ⟨[(8, I r104.1), (9, I 0)], []⟩) (by kernel_rfl) ?_
      intro a hS
      refine wret ?_
      exact fin T hS hO (fun c => c) rfl (r := [.int .i64 r104.1, .int .i64 0]) (by kernel_rfl) (fun χ' hM hC => ⟨(r104.1, 0), hm, rfl⟩)
theorem C17 (k46 : S46) (v : ∀ (o_ : Api_Object) (state : Int) (kind : Int) (result : Int), VC17 o_ state kind result (fun r => r = run_Step o_ state kind result)) : S17 := by
  intro w χ o_ state kind result a1 c1   h1
  refine (W17 k46 w χ o_ state kind result a1 c1   _ (v o_ state kind result) h1).mono ?_
  rintro _ _ _ _ ⟨r, rfl, h⟩
  exact h
def S68 : Prop := ∀ (w : World) (χ : Nat → Nat) (p_ : Api_Pick) (cap1 : List Api_Oper) (cap2 : List (Int × Int)) (cap3 : Api_Object) (cap4 : Int) (a1 : Option Addr) (c1 : Nat) (r2 : Nat) (m2 : Nat) (a3 : Option Addr) (c3 : Nat) (b1 : Nat) (i1 : Nat) (b2 : Nat) (i2 : Nat) (b3 : Nat) (i3 : Nat) (b4 : Nat) (i4 : Nat), RS tApi_Oper w χ a1 cap1 c1 → OM kI tI false w χ m2 r2 cap2 → RS tApi_Row w χ a3 cap3.Rows c3 → Cell w χ b1 i1 25 [.slice a1 cap1.length c1] → Cell w χ b2 i2 85 [.map (some r2)] → Cell w χ b3 i3 24 [.int .i64 cap3.States, .int .i64 cap3.Kinds, .int .i64 cap3.Init, .slice a3 cap3.Rows.length c3] → Cell w χ b4 i4 3 [.int .i64 cap4] → Apart [i1, i2, i3, i4, m2] → Ret Try.prog 68 #[.agg #[.int .i64 p_.Oper, .int .i64 p_.Result], .pointer (some ⟨b1, 0, none⟩), .pointer (some ⟨b2, 0, none⟩), .pointer (some ⟨b3, 0, none⟩), .pointer (some ⟨b4, 0, none⟩)] (pR [i1, i2, i3, i4, m2]) w χ (fun w χ' v => v = .tuple #[.int .i64 ((run_runner_1 p_ cap1 cap2 cap3 cap4).1), .int .i64 ((run_runner_1 p_ cap1 cap2 cap3 cap4).2.1)] ∧ Cell w χ' b1 i1 25 [.slice a1 cap1.length c1] ∧ Cell w χ' b2 i2 85 [.map (some r2)] ∧ OM kI tI false w χ' m2 r2 ((run_runner_1 p_ cap1 cap2 cap3 cap4).2.2.1) ∧ Cell w χ' b3 i3 24 [.int .i64 cap3.States, .int .i64 cap3.Kinds, .int .i64 cap3.Init, .slice a3 cap3.Rows.length c3] ∧ Cell w χ' b4 i4 3 [.int .i64 ((run_runner_1 p_ cap1 cap2 cap3 cap4).2.2.2)])
theorem hb68 : hasBody Try.prog 68 = true := by kernel_rfl
/-- replevin/run.runner$1 -/
theorem W68 (k17 : S17) (w0 : World) (χ0 : Nat → Nat) (p_ : Api_Pick) (cap1 : List Api_Oper) (cap2 : List (Int × Int)) (cap3 : Api_Object) (cap4 : Int) (a1 : Option Addr) (c1 : Nat) (r2 : Nat) (m2 : Nat) (a3 : Option Addr) (c3 : Nat) (b1 : Nat) (i1 : Nat) (b2 : Nat) (i2 : Nat) (b3 : Nat) (i3 : Nat) (b4 : Nat) (i4 : Nat) (Q : Int × Int × (List (Int × Int)) × Int → Prop) (hm : VC68 p_ cap1 cap2 cap3 cap4 Q) (h1 : RS tApi_Oper w0 χ0 a1 cap1 c1) (h2 : OM kI tI false w0 χ0 m2 r2 cap2) (h3 : RS tApi_Row w0 χ0 a3 cap3.Rows c3) (hc1 : Cell w0 χ0 b1 i1 25 [.slice a1 cap1.length c1]) (hc2 : Cell w0 χ0 b2 i2 85 [.map (some r2)]) (hc3 : Cell w0 χ0 b3 i3 24 [.int .i64 cap3.States, .int .i64 cap3.Kinds, .int .i64 cap3.Init, .slice a3 cap3.Rows.length c3]) (hc4 : Cell w0 χ0 b4 i4 3 [.int .i64 cap4]) (hA : Apart [i1, i2, i3, i4, m2]) :
    Ret Try.prog 68 #[.agg #[.int .i64 p_.Oper, .int .i64 p_.Result], .pointer (some ⟨b1, 0, none⟩), .pointer (some ⟨b2, 0, none⟩), .pointer (some ⟨b3, 0, none⟩), .pointer (some ⟨b4, 0, none⟩)] (pR [i1, i2, i3, i4, m2]) w0 χ0 (fun w χ' v => ∃ r, Q r ∧ v = .tuple #[.int .i64 r.1, .int .i64 r.2.1] ∧ Cell w χ' b1 i1 25 [.slice a1 cap1.length c1] ∧ Cell w χ' b2 i2 85 [.map (some r2)] ∧ OM kI tI false w χ' m2 r2 r.2.2.1 ∧ Cell w χ' b3 i3 24 [.int .i64 cap3.States, .int .i64 cap3.Kinds, .int .i64 cap3.Init, .slice a3 cap3.Rows.length c3] ∧ Cell w χ' b4 i4 3 [.int .i64 r.2.2.2]) := by
  unfold VC68 at hm
  replace hm := hm (h1.sm (by kernel_rfl))
  replace hm := hm (h3.sm (by kernel_rfl))
  refine enterR Try.func68 rfl (f0of [(i1, 901), (i2, 902), (i3, 903), (i4, 904), (m2, 2002)]) (fun id => (bif Nat.beq id 901 then b1 else (bif Nat.beq id 902 then b2 else (bif Nat.beq id 903 then b3 else (bif Nat.beq id 904 then b4 else 0))))) (args := [V (.agg #[.int .i64 p_.Oper, .int .i64 p_.Result]), Pt 901 0, Pt 902 0, Pt 903 0, Pt 904 0]) (bxs := [(901, (25, [V (.slice a1 cap1.length c1)])), (902, (85, [V (.map (some r2))])), (903, (24, [I cap3.States, I cap3.Kinds, I cap3.Init, V (.slice a3 cap3.Rows.length c3)])), (904, (3, [I cap4]))]) (by kernel_rfl) rfl (BoxesOK.cons (by kernel_rfl) (hc1.map (f0of_at 0 hA.1 rfl)) (BoxesOK.cons (by kernel_rfl) (hc2.map (f0of_at 1 hA.1 rfl)) (BoxesOK.cons (by kernel_rfl) (hc3.map (f0of_at 2 hA.1 rfl)) (BoxesOK.cons (by kernel_rfl) (hc4.map (f0of_at 3 hA.1 rfl)) BoxesOK.nil)))) (f0of_0 (fun q hq => (hA.2 q.1 (List.mem_map.2 ⟨q, hq, rfl⟩)).1)) ?_
  intro a hS hO hM
  have hP : Pin [(901, b1), (902, b2), (903, b3), (904, b4)] (fun id => (bif Nat.beq id 901 then b1 else (bif Nat.beq id 902 then b2 else (bif Nat.beq id 903 then b3 else (bif Nat.beq id 904 then b4 else 0))))) := by intro q hq; simp at hq; rcases hq with rfl | rfl | rfl | rfl <;> rfl
  generalize (fun id => (bif Nat.beq id 901 then b1 else (bif Nat.beq id 902 then b2 else (bif Nat.beq id 903 then b3 else (bif Nat.beq id 904 then b4 else 0))))) = ρ at hS hP
  clear hc1 hc2 hc3 hc4
  replace h1 := h1.m0 hM
  replace h2 := h2.map (f := f0of [(i1, 901), (i2, 902), (i3, 903), (i4, 904), (m2, 2002)]) (f0of_at 4 hA.1 rfl) hM
  replace h3 := h3.m0 hM
  clear hM
  refine regM T hS (sp := []) (ks := [1, 2, 3, 4, 5]) (bs := [6, 901, 902, 903, 904]) (sy' := ⟨[(1, Pt 901 0), (2, Pt 902 0), (3, Pt 903 0), (4, Pt 904 0), (5, Pt 6 0)], [(6, (52, [I p_.Oper, I p_.Result])), (901, (25, [V (.slice a1 cap1.length c1)])), (902, (85, [V (.map (some r2))])), (903, (24, [I cap3.States, I cap3.Kinds, I cap3.Init, V (.slice a3 cap3.Rows.length c3)])), (904, (3, [I cap4]))]⟩) (by kernel_rfl) ?_
  intro ρ a w122 χ123 hS hE hr
  replace hO := hO.mv hE rfl rfl
  replace h1 := h1.mv hE rfl
  replace h2 := h2.mv hE rfl rfl
  replace h3 := h3.mv hE rfl
  replace hP := hP.mv hr (by kernel_rfl)
  clear hE hr
  refine wseq ?_
  refine wblock ?_
  refine regP T hS (sp := [15]) (ks := [1, 2, 3, 4, 5, 11]) (bs := [6, 901, 902, 903, 904]) (sy' := ⟨[(1, Pt 901 0), (2, Pt 902 0), (3, Pt 903 0), (4, Pt 904 0), (5, Pt 6 0), (11, B ((decide (p_.Oper < 0)) || (decide (p_.Oper ≥ ((cap1.length : Nat) : Int)))))], [(6, (52, [I p_.Oper, I p_.Result])), (901, (25, [V (.slice a1 cap1.length c1)])), (902, (85, [V (.map (some r2))])), (903, (24, [I cap3.States, I cap3.Kinds, I cap3.Init, V (.slice a3 cap3.Rows.length c3)])), (904, (3, [I cap4]))]⟩) (by kernel_rfl) ?_
  intro a hS
  refine wcond hS (b := ((decide (p_.Oper < 0)) || (decide (p_.Oper ≥ ((cap1.length : Nat) : Int))))) (by kernel_rfl) (fun hb => ?_) (fun hb => ?_)
  · replace hm := hm.1 hb
    refine regP T hS (sp := []) (ks := [6, 7]) (bs := [901, 902, 903, 904]) (sy' := ⟨[(6, I 0), (7, I 2)], [(901, (25, [V (.slice a1 cap1.length c1)])), (902, (85, [V (.map (some r2))])), (903, (24, [I cap3.States, I cap3.Kinds, I cap3.Init, V (.slice a3 cap3.Rows.length c3)])), (904, (3, [I cap4]))]⟩) (by kernel_rfl) ?_
    intro a hS
    refine wret ?_
    exact finR T hS hO (fun c h => f0of_zero (by kernel_rfl) h) (fun c h => f0of_else (l := [(i1, 901), (i2, 902), (i3, 903), (i4, 904), (m2, 2002)]) h) (f1of [(i1, 901), (i2, 902), (i3, 903), (i4, 904), (m2, 2002)]) rfl (r := [.int .i64 0, .int .i64 2]) (by kernel_rfl) (fun χ' hM hC => ⟨(0, 2, cap2, cap4), hm, rfl, ((hS.cell (id := 901) (t := 25) (cs := [V (.slice a1 cap1.length c1)]) (by kernel_rfl)).out (f := (f1of [(i1, 901), (i2, 902), (i3, 903), (i4, 904), (m2, 2002)])) hC (by kernel_rfl) (by kernel_rfl) (hP.at 0 rfl)), ((hS.cell (id := 902) (t := 85) (cs := [V (.map (some r2))]) (by kernel_rfl)).out (f := (f1of [(i1, 901), (i2, 902), (i3, 903), (i4, 904), (m2, 2002)])) hC (by kernel_rfl) (by kernel_rfl) (hP.at 1 rfl)), (h2.out (f := (f1of [(i1, 901), (i2, 902), (i3, 903), (i4, 904), (m2, 2002)])) hM hC (by kernel_rfl) (by kernel_rfl)), ((hS.cell (id := 903) (t := 24) (cs := [I cap3.States, I cap3.Kinds, I cap3.Init, V (.slice a3 cap3.Rows.length c3)]) (by kernel_rfl)).out (f := (f1of [(i1, 901), (i2, 902), (i3, 903), (i4, 904), (m2, 2002)])) hC (by kernel_rfl) (by kernel_rfl) (hP.at 2 rfl)), ((hS.cell (id := 904) (t := 3) (cs := [I cap4]) (by kernel_rfl)).out (f := (f1of [(i1, 901), (i2, 902), (i3, 903), (i4, 904), (m2, 2002)])) hC (by kernel_rfl) (by kernel_rfl) (hP.at 3 rfl))⟩)
  · replace hm := hm.2 hb
    refine regO ?_
    refine opsP T hS 3 (sp := []) (ks := [1, 2, 3, 4, 5, 23, 25]) (bs := [6, 901, 902, 903, 904]) (sy' := ⟨[(1, Pt 901 0), (2, Pt 902 0), (3, Pt 903 0), (4, Pt 904 0), (5, Pt 6 0), (23, V (.map (some r2))), (25, I p_.Oper)], [(6, (52, [I p_.Oper, I p_.Result])), (901, (25, [V (.slice a1 cap1.length c1)])), (902, (85, [V (.map (some r2))])), (903, (24, [I cap3.States, I cap3.Kinds, I cap3.Init, V (.slice a3 cap3.Rows.length c3)])), (904, (3, [I cap4]))]⟩) (by kernel_rfl) ?_
    intro a hS
    refine op1 (mlook kI tI false (zv := .int .i64 0) (z := 0) p_.Oper hS (by kernel_rfl) (by kernel_rfl) (by kernel_rfl) (by kernel_rfl) Try.underlying85 Try.underlying3 (by kernel_rfl) rfl h2 ?_)
    intro v101 a hv hS
    replace hv : tI.R _ _ [v101] _ := hv
    cases hv
    refine endP T hS (sp := []) (ks := [1, 2, 3, 4, 5, 22]) (bs := [6, 901, 902, 903, 904]) (sy' := ⟨[(1, Pt 901 0), (2, Pt 902 0), (3, Pt 903 0), (4, Pt 904 0), (5, Pt 6 0), (22, B (decide (((mget cap2 p_.Oper).getD 0) > 0)))], [(6, (52, [I p_.Oper, I p_.Result])), (901, (25, [V (.slice a1 cap1.length c1)])), (902, (85, [V (.map (some r2))])), (903, (24, [I cap3.States, I cap3.Kinds, I cap3.Init, V (.slice a3 cap3.Rows.length c3)])), (904, (3, [I cap4]))]⟩) (by kernel_rfl) ?_
    intro a hS
    refine wcond hS (b := decide (((mget cap2 p_.Oper).getD 0) > 0)) (by kernel_rfl) (fun hb => ?_) (fun hb => ?_)
    · replace hm := hm.1 hb
      refine regP T hS (sp := []) (ks := [6, 7]) (bs := [901, 902, 903, 904]) (sy' := ⟨[(6, I 0), (7, I 21)], [(901, (25, [V (.slice a1 cap1.length c1)])), (902, (85, [V (.map (some r2))])), (903, (24, [I cap3.States, I cap3.Kinds, I cap3.Init, V (.slice a3 cap3.Rows.length c3)])), (904, (3, [I cap4]))]⟩) (by kernel_rfl) ?_
      intro a hS
      refine wret ?_
      exact finR T hS hO (fun c h => f0of_zero (by kernel_rfl) h) (fun c h => f0of_else (l := [(i1, 901), (i2, 902), (i3, 903), (i4, 904), (m2, 2002)]) h) (f1of [(i1, 901), (i2, 902), (i3, 903), (i4, 904), (m2, 2002)]) rfl (r := [.int .i64 0, .int .i64 21]) (by kernel_rfl) (fun χ' hM hC => ⟨(0, 21, cap2, cap4), hm, rfl, ((hS.cell (id := 901) (t := 25) (cs := [V (.slice a1 cap1.length c1)]) (by kernel_rfl)).out (f := (f1of [(i1, 901), (i2, 902), (i3, 903), (i4, 904), (m2, 2002)])) hC (by kernel_rfl) (by kernel_rfl) (hP.at 0 rfl)), ((hS.cell (id := 902) (t := 85) (cs := [V (.map (some r2))]) (by kernel_rfl)).out (f := (f1of [(i1, 901), (i2, 902), (i3, 903), (i4, 904), (m2, 2002)])) hC (by kernel_rfl) (by kernel_rfl) (hP.at 1 rfl)), (h2.out (f := (f1of [(i1, 901), (i2, 902), (i3, 903), (i4, 904), (m2, 2002)])) hM hC (by kernel_rfl) (by kernel_rfl)), ((hS.cell (id := 903) (t := 24) (cs := [I cap3.States, I cap3.Kinds, I cap3.Init, V (.slice a3 cap3.Rows.length c3)]) (by kernel_rfl)).out (f := (f1of [(i1, 901), (i2, 902), (i3, 903), (i4, 904), (m2, 2002)])) hC (by kernel_rfl) (by kernel_rfl) (hP.at 2 rfl)), ((hS.cell (id := 904) (t := 3) (cs := [I cap4]) (by kernel_rfl)).out (f := (f1of [(i1, 901), (i2, 902), (i3, 903), (i4, 904), (m2, 2002)])) hC (by kernel_rfl) (by kernel_rfl) (hP.at 3 rfl))⟩)
    · replace hm := hm.2 hb
      refine wskip ?_
      refine regO ?_
      refine opsP T hS 3 (sp := []) (ks := [1, 3, 4, 5, 28, 30]) (bs := [6, 901, 902, 903, 904]) (sy' := ⟨[(1, Pt 901 0), (3, Pt 903 0), (4, Pt 904 0), (5, Pt 6 0), (28, V (.map (some r2))), (30, I p_.Oper)], [(6, (52, [I p_.Oper, I p_.Result])), (901, (25, [V (.slice a1 cap1.length c1)])), (902, (85, [V (.map (some r2))])), (903, (24, [I cap3.States, I cap3.Kinds, I cap3.Init, V (.slice a3 cap3.Rows.length c3)])), (904, (3, [I cap4]))]⟩) (by kernel_rfl) ?_
      intro a hS
      refine op1 (mlook kI tI false (zv := .int .i64 0) (z := 0) p_.Oper hS (by kernel_rfl) (by kernel_rfl) (by kernel_rfl) (by kernel_rfl) Try.underlying85 Try.underlying3 (by kernel_rfl) rfl h2 ?_)
      intro v102 a hv hS
      replace hv : tI.R _ _ [v102] _ := hv
      cases hv
      refine opsP T hS 1 (sp := []) (ks := [1, 3, 4, 5, 28, 30, 32]) (bs := [6, 901, 902, 903, 904]) (sy' := ⟨[(1, Pt 901 0), (3, Pt 903 0), (4, Pt 904 0), (5, Pt 6 0), (28, V (.map (some r2))), (30, I p_.Oper), (32, I (IntKind.i64.wrap (((mget cap2 p_.Oper).getD 0) + 1)))], [(6, (52, [I p_.Oper, I p_.Result])), (901, (25, [V (.slice a1 cap1.length c1)])), (902, (85, [V (.map (some r2))])), (903, (24, [I cap3.States, I cap3.Kinds, I cap3.Init, V (.slice a3 cap3.Rows.length c3)])), (904, (3, [I cap4]))]⟩) (by kernel_rfl) ?_
      intro a hS
      refine op1 (mset kI tI false (v := I (IntKind.i64.wrap (((mget cap2 p_.Oper).getD 0) + 1))) (u := IntKind.i64.wrap (((mget cap2 p_.Oper).getD 0) + 1)) p_.Oper hS (by kernel_rfl) (by kernel_rfl) (by kernel_rfl) (by kernel_rfl) Try.underlying85 Try.underlying3 (by kernel_rfl) h2 rfl ?_)
      intro a w103 hE h104 hS
      clear h2
      replace hO := hO.mv hE rfl rfl
      replace h1 := h1.mv hE rfl
      replace h3 := h3.mv hE rfl
      clear hE
      refine doneK ?_
      refine regO ?_
      refine opsP T hS 3 (sp := []) (ks := [3, 4, 5, 33, 35]) (bs := [6, 901, 902, 903, 904]) (sy' := ⟨[(3, Pt 903 0), (4, Pt 904 0), (5, Pt 6 0), (33, V (.slice a1 cap1.length c1)), (35, I p_.Oper)], [(6, (52, [I p_.Oper, I p_.Result])), (901, (25, [V (.slice a1 cap1.length c1)])), (902, (85, [V (.map (some r2))])), (903, (24, [I cap3.States, I cap3.Kinds, I cap3.Init, V (.slice a3 cap3.Rows.length c3)])), (904, (3, [I cap4]))]⟩) (by kernel_rfl) ?_
      intro a hS
      obtain ⟨hq, hm⟩ := hm
      refine op1 (index (e := 54) (k := .i64) T hS (by kernel_rfl) (by kernel_rfl) (by kernel_rfl) (by kernel_rfl) h1 (by kernel_rfl) (by kernel_rfl) hq.1 hq.2 ?_)
      intro A105 a h106 hS
      clear hq
      refine op1 (loadA T hS (by kernel_rfl) (by kernel_rfl) (by kernel_rfl) h106 (by kernel_rfl) (by kernel_rfl) ?_)
      intro v107 a hv hS
      subst hv
      refine endM T hS (sp := []) (ks := [3, 4, 5, 8]) (bs := [6, 9, 901, 902, 903, 904]) (sy' := ⟨[(3, Pt 903 0), (4, Pt 904 0), (5, Pt 6 0), (8, Pt 9 0)], [(6, (52, [I p_.Oper, I p_.Result])), (9, (54, [I ((gi cap1 p_.Oper).Prc), I ((gi cap1 p_.Oper).Kind), I ((gi cap1 p_.Oper).Start), I ((gi cap1 p_.Oper).End), I ((gi cap1 p_.Oper).Result)])), (901, (25, [V (.slice a1 cap1.length c1)])), (902, (85, [V (.map (some r2))])), (903, (24, [I cap3.States, I cap3.Kinds, I cap3.Init, V (.slice a3 cap3.Rows.length c3)])), (904, (3, [I cap4]))]⟩) (by kernel_rfl) ?_
      intro ρ a w120 χ121 hS hE hr
      replace hO := hO.mv hE rfl rfl
      replace h1 := h1.mv hE rfl
      replace h3 := h3.mv hE rfl
      replace h104 := h104.mv hE rfl rfl
      replace hP := hP.mv hr (by kernel_rfl)
      clear hE hr
      refine regO ?_
      refine opsP T hS 6 (sp := []) (ks := [4, 5, 8, 39, 40, 42, 44]) (bs := [6, 9, 901, 902, 903, 904]) (sy' := ⟨[(4, Pt 904 0), (5, Pt 6 0), (8, Pt 9 0), (39, V (.agg #[.int .i64 cap3.States, .int .i64 cap3.Kinds, .int .i64 cap3.Init, .slice a3 cap3.Rows.length c3])), (40, I cap4), (42, I ((gi cap1 p_.Oper).Kind)), (44, I p_.Result)], [(6, (52, [I p_.Oper, I p_.Result])), (9, (54, [I ((gi cap1 p_.Oper).Prc), I ((gi cap1 p_.Oper).Kind), I ((gi cap1 p_.Oper).Start), I ((gi cap1 p_.Oper).End), I ((gi cap1 p_.Oper).Result)])), (901, (25, [V (.slice a1 cap1.length c1)])), (902, (85, [V (.map (some r2))])), (903, (24, [I cap3.States, I cap3.Kinds, I cap3.Init, V (.slice a3 cap3.Rows.length c3)])), (904, (3, [I cap4]))]⟩) (by kernel_rfl) ?_
      intro a hS
      refine op1 (call hS (by kernel_rfl) (by kernel_rfl) hb17 (by kernel_rfl) (fun _ _ => rfl) (k17 _ _ cap3 cap4 ((gi cap1 p_.Oper).Kind) p_.Result a3 c3 h3) ?_)
      intro v108 a w109 χ110 hE hp hS
      replace hO := hO.mv hE rfl rfl
      replace h1 := h1.mv hE rfl
      replace h3 := h3.mv hE rfl
      replace h104 := h104.mv hE rfl rfl
      clear hE
      obtain ⟨r111, hr⟩ : ∃ r, run_Step cap3 cap4 ((gi cap1 p_.Oper).Kind) p_.Result = r := ⟨_, rfl⟩
      replace hm := hm r111 hr
      rw [hr] at hp
      clear hr
      subst hp
      refine endP T hS (sp := []) (ks := [4, 5, 8, 9, 10]) (bs := [6, 9, 901, 902, 903, 904]) (sy' := ⟨[(4, Pt 904 0), (5, Pt 6 0), (8, Pt 9 0), (9, I r111.1), (10, I r111.2)], [(6, (52, [I p_.Oper, I p_.Result])), (9, (54, [I ((gi cap1 p_.Oper).Prc), I ((gi cap1 p_.Oper).Kind), I ((gi cap1 p_.Oper).Start), I ((gi cap1 p_.Oper).End), I ((gi cap1 p_.Oper).Result)])), (901, (25, [V (.slice a1 cap1.length c1)])), (902, (85, [V (.map (some r2))])), (903, (24, [I cap3.States, I cap3.Kinds, I cap3.Init, V (.slice a3 cap3.Rows.length c3)])), (904, (3, [I cap4]))]⟩) (by kernel_rfl) ?_
      intro a hS
      refine wcut (fun a w => ∃ (ρ : Nat → Nat) (χ : Nat → Nat) (e_112 : Int), VC68_J1 p_ cap2 cap4 Q r111 e_112 ∧ St Try.f68.ntmps ⟨[(4, Pt 904 0), (9, I r111.1), (10, I e_112)], [(901, (25, [V (.slice a1 cap1.length c1)])), (902, (85, [V (.map (some r2))])), (903, (24, [I cap3.States, I cap3.Kinds, I cap3.Init, V (.slice a3 cap3.Rows.length c3)])), (904, (3, [I cap4]))]⟩ ρ a w χ ∧ OldR (f0of [(i1, 901), (i2, 902), (i3, 903), (i4, 904), (m2, 2002)]) w0 χ0 w χ ∧ Pin [(901, b1), (902, b2), (903, b3), (904, b4)] ρ ∧ RS tApi_Oper w χ a1 cap1 c1 ∧ OM kI tI false w χ 2002 r2 (mput cap2 p_.Oper (IntKind.i64.wrap (((mget cap2 p_.Oper).getD 0) + 1))) ∧ RS tApi_Row w χ a3 cap3.Rows c3) ?_ ?_
      · refine regP T hS (sp := [50, 55]) (ks := [4, 9, 10, 61]) (bs := [901, 902, 903, 904]) (sy' := ⟨[(4, Pt 904 0), (9, I r111.1), (10, I r111.2), (61, B (((r111.2 == 0) && (((gi cap1 p_.Oper).End) != (-1))) && (((gi cap1 p_.Oper).Result) != p_.Result)))], [(901, (25, [V (.slice a1 cap1.length c1)])), (902, (85, [V (.map (some r2))])), (903, (24, [I cap3.States, I cap3.Kinds, I cap3.Init, V (.slice a3 cap3.Rows.length c3)])), (904, (3, [I cap4]))]⟩) (by kernel_rfl) ?_
        intro a hS
        refine wcond hS (b := (((r111.2 == 0) && (((gi cap1 p_.Oper).End) != (-1))) && (((gi cap1 p_.Oper).Result) != p_.Result))) (by kernel_rfl) (fun hb => ?_) (fun hb => ?_)
        · replace hm := hm.1 hb
          refine region (endP T hS (sp := []) (ks := [4, 9, 10]) (bs := [901, 902, 903, 904]) (sy' := ⟨[(4, Pt 904 0), (9, I r111.1), (10, I 40)], [(901, (25, [V (.slice a1 cap1.length c1)])), (902, (85, [V (.map (some r2))])), (903, (24, [I cap3.States, I cap3.Kinds, I cap3.Init, V (.slice a3 cap3.Rows.length c3)])), (904, (3, [I cap4]))]⟩) (by kernel_rfl) ?_)
          intro a hS
          exact ⟨ρ, _, 40, hm, hS.sel [4, 9, 10] [901, 902, 903, 904] (by kernel_rfl), hO, hP, h1, h104, h3⟩
        · replace hm := hm.2 hb
          refine wskip ?_
          exact ⟨ρ, _, r111.2, hm, hS.sel [4, 9, 10] [901, 902, 903, 904] (by kernel_rfl), hO, hP, h1, h104, h3⟩
      · rintro a w119 ⟨ρ, χ118, e_112, hm, hS, hO, hP, h113, h114, h115⟩
        unfold VC68_J1 at hm
        refine wseq ?_
        refine regP T hS (sp := []) (ks := [4, 9, 10, 63]) (bs := [901, 902, 903, 904]) (sy' := ⟨[(4, Pt 904 0), (9, I r111.1), (10, I e_112), (63, B (e_112 != 0))], [(901, (25, [V (.slice a1 cap1.length c1)])), (902, (85, [V (.map (some r2))])), (903, (24, [I cap3.States, I cap3.Kinds, I cap3.Init, V (.slice a3 cap3.Rows.length c3)])), (904, (3, [I cap4]))]⟩) (by kernel_rfl) ?_
        intro a hS
        refine wcond hS (b := (e_112 != 0)) (by kernel_rfl) (fun hb => ?_) (fun hb => ?_)
        · replace hm := hm.1 hb
          refine regP T hS (sp := []) (ks := [6, 7]) (bs := [901, 902, 903, 904]) (sy' := ⟨[(6, I 0), (7, I e_112)], [(901, (25, [V (.slice a1 cap1.length c1)])), (902, (85, [V (.map (some r2))])), (903, (24, [I cap3.States, I cap3.Kinds, I cap3.Init, V (.slice a3 cap3.Rows.length c3)])), (904, (3, [I cap4]))]⟩) (by kernel_rfl) ?_
          intro a hS
          refine wret ?_
          exact finR T hS hO (fun c h => f0of_zero (by kernel_rfl) h) (fun c h => f0of_else (l := [(i1, 901), (i2, 902), (i3, 903), (i4, 904), (m2, 2002)]) h) (f1of [(i1, 901), (i2, 902), (i3, 903), (i4, 904), (m2, 2002)]) rfl (r := [.int .i64 0, .int .i64 e_112]) (by kernel_rfl) (fun χ' hM hC => ⟨(0, e_112, mput cap2 p_.Oper (IntKind.i64.wrap (((mget cap2 p_.Oper).getD 0) + 1)), cap4), hm, rfl, ((hS.cell (id := 901) (t := 25) (cs := [V (.slice a1 cap1.length c1)]) (by kernel_rfl)).out (f := (f1of [(i1, 901), (i2, 902), (i3, 903), (i4, 904), (m2, 2002)])) hC (by kernel_rfl) (by kernel_rfl) (hP.at 0 rfl)), ((hS.cell (id := 902) (t := 85) (cs := [V (.map (some r2))]) (by kernel_rfl)).out (f := (f1of [(i1, 901), (i2, 902), (i3, 903), (i4, 904), (m2, 2002)])) hC (by kernel_rfl) (by kernel_rfl) (hP.at 1 rfl)), (h114.out (f := (f1of [(i1, 901), (i2, 902), (i3, 903), (i4, 904), (m2, 2002)])) hM hC (by kernel_rfl) (by kernel_rfl)), ((hS.cell (id := 903) (t := 24) (cs := [I cap3.States, I cap3.Kinds, I cap3.Init, V (.slice a3 cap3.Rows.length c3)]) (by kernel_rfl)).out (f := (f1of [(i1, 901), (i2, 902), (i3, 903), (i4, 904), (m2, 2002)])) hC (by kernel_rfl) (by kernel_rfl) (hP.at 2 rfl)), ((hS.cell (id := 904) (t := 3) (cs := [I cap4]) (by kernel_rfl)).out (f := (f1of [(i1, 901), (i2, 902), (i3, 903), (i4, 904), (m2, 2002)])) hC (by kernel_rfl) (by kernel_rfl) (hP.at 3 rfl))⟩)
        · replace hm := hm.2 hb
          refine wskip ?_
          refine regM T hS (sp := []) (ks := [9]) (bs := [901, 902, 903, 904]) (sy' := ⟨[(9, I r111.1)], [(901, (25, [V (.slice a1 cap1.length c1)])), (902, (85, [V (.map (some r2))])), (903, (24, [I cap3.States, I cap3.Kinds, I cap3.Init, V (.slice a3 cap3.Rows.length c3)])), (904, (3, [I r111.1]))]⟩) (by kernel_rfl) ?_
          intro ρ a w116 χ117 hS hE hr
          replace hO := hO.mv hE rfl rfl
          replace h113 := h113.mv hE rfl
          replace h114 := h114.mv hE rfl rfl
          replace h115 := h115.mv hE rfl
          replace hP := hP.mv hr (by kernel_rfl)
          clear hE hr
          refine regP T hS (sp := []) (ks := [6, 7]) (bs := [901, 902, 903, 904]) (sy' := ⟨[(6, I r111.1), (7, I 0)], [(901, (25, [V (.slice a1 cap1.length c1)])), (902, (85, [V (.map (some r2))])), (903, (24, [I cap3.States, I cap3.Kinds, I cap3.Init, V (.slice a3 cap3.Rows.length c3)])), (904, (3, [I r111.1]))]⟩) (by kernel_rfl) ?_
          intro a hS
          refine wret ?_
          exact finR T hS hO (fun c h => f0of_zero (by kernel_rfl) h) (fun c h => f0of_else (l := [(i1, 901), (i2, 902), (i3, 903), (i4, 904), (m2, 2002)]) h) (f1of [(i1, 901), (i2, 902), (i3, 903), (i4, 904), (m2, 2002)]) rfl (r := [.int .i64 r111.1, .int .i64 0]) (by kernel_rfl) (fun χ' hM hC => ⟨(r111.1, 0, mput cap2 p_.Oper (IntKind.i64.wrap (((mget cap2 p_.Oper).getD 0) + 1)), r111.1), hm, rfl, ((hS.cell (id := 901) (t := 25) (cs := [V (.slice a1 cap1.length c1)]) (by kernel_rfl)).out (f := (f1of [(i1, 901), (i2, 902), (i3, 903), (i4, 904), (m2, 2002)])) hC (by kernel_rfl) (by kernel_rfl) (hP.at 0 rfl)), ((hS.cell (id := 902) (t := 85) (cs := [V (.map (some r2))]) (by kernel_rfl)).out (f := (f1of [(i1, 901), (i2, 902), (i3, 903), (i4, 904), (m2, 2002)])) hC (by kernel_rfl) (by kernel_rfl) (hP.at 1 rfl)), (h114.out (f := (f1of [(i1, 901), (i2, 902), (i3, 903), (i4, 904), (m2, 2002)])) hM hC (by kernel_rfl) (by kernel_rfl)), ((hS.cell (id := 903) (t := 24) (cs := [I cap3.States, I cap3.Kinds, I cap3.Init, V (.slice a3 cap3.Rows.length c3)]) (by kernel_rfl)).out (f := (f1of [(i1, 901), (i2, 902), (i3, 903), (i4, 904), (m2, 2002)])) hC (by kernel_rfl) (by kernel_rfl) (hP.at 2 rfl)), ((hS.cell (id := 904) (t := 3) (cs := [I r111.1]) (by kernel_rfl)).out (f := (f1of [(i1, 901), (i2, 902), (i3, 903), (i4, 904), (m2, 2002)])) hC (by kernel_rfl) (by kernel_rfl) (hP.at 3 rfl))⟩)
theorem C68 (k17 : S17) (v : ∀ (p_ : Api_Pick) (cap1 : List Api_Oper) (cap2 : List (Int × Int)) (cap3 : Api_Object) (cap4 : Int), VC68 p_ cap1 cap2 cap3 cap4 (fun r => r = run_runner_1 p_ cap1 cap2 cap3 cap4)) : S68 := by
  intro w χ p_ cap1 cap2 cap3 cap4 a1 c1 r2 m2 a3 c3  b1 i1 b2 i2 b3 i3 b4 i4 h1 h2 h3 hc1 hc2 hc3 hc4 hA
  refine (W68 k17 w χ p_ cap1 cap2 cap3 cap4 a1 c1 r2 m2 a3 c3  b1 i1 b2 i2 b3 i3 b4 i4 _ (v p_ cap1 cap2 cap3 cap4) h1 h2 h3 hc1 hc2 hc3 hc4 hA).mono ?_
  rintro _ _ _ _ ⟨r, rfl, h⟩
  exact h
def S16 : Prop := ∀ (w : World) (χ : Nat → Nat) (o_ : Api_Object) (l_ : List Api_Oper) (state : Int) (picks : List Api_Pick) (a1 : Option Addr) (c1 : Nat) (a2 : Option Addr) (c2 : Nat) (a3 : Option Addr) (c3 : Nat), preO3 o_ l_ state picks → RS tApi_Row w χ a1 o_.Rows c1 → RS tApi_Oper w χ a2 l_ c2 → RS tApi_Pick w χ a3 picks c3 → Ret Try.prog 16 #[.agg #[.int .i64 o_.States, .int .i64 o_.Kinds, .int .i64 o_.Init, .slice a1 o_.Rows.length c1], .slice a2 l_.length c2, .int .i64 state, .slice a3 picks.length c3] xnone w χ (fun w χ' v => v = .tuple #[.int .i64 ((run_From o_ l_ state picks).1), .int .i64 ((run_From o_ l_ state picks).2.1), .int .i64 ((run_From o_ l_ state picks).2.2)])
theorem hb16 : hasBody Try.prog 16 = true := by kernel_rfl
/-- replevin/run.From -/
theorem W16 (k44 : S44) (k45 : S45) (k68 : S68) (w0 : World) (χ0 : Nat → Nat) (o_ : Api_Object) (l_ : List Api_Oper) (state : Int) (picks : List Api_Pick) (a1 : Option Addr) (c1 : Nat) (a2 : Option Addr) (c2 : Nat) (a3 : Option Addr) (c3 : Nat) (Q : Int × Int × Int → Prop) (hm : VC16 o_ l_ state picks Q) (h1 : RS tApi_Row w0 χ0 a1 o_.Rows c1) (h2 : RS tApi_Oper w0 χ0 a2 l_ c2) (h3 : RS tApi_Pick w0 χ0 a3 picks c3) :
    Ret Try.prog 16 #[.agg #[.int .i64 o_.States, .int .i64 o_.Kinds, .int .i64 o_.Init, .slice a1 o_.Rows.length c1], .slice a2 l_.length c2, .int .i64 state, .slice a3 picks.length c3] xnone w0 χ0 (fun w χ' v => ∃ r, Q r ∧ v = .tuple #[.int .i64 r.1, .int .i64 r.2.1, .int .i64 r.2.2]) := by
  unfold VC16 at hm
  replace hm := hm (h1.sm (by kernel_rfl))
  replace hm := hm (h2.sm (by kernel_rfl))
  replace hm := hm (h3.sm (by kernel_rfl))
  refine enter Try.func16 rfl (vals := [.agg #[.int .i64 o_.States, .int .i64 o_.Kinds, .int .i64 o_.Init, .slice a1 o_.Rows.length c1], .slice a2 l_.length c2, .int .i64 state, .slice a3 picks.length c3]) (by kernel_rfl) ?_
  intro ρ a hS hO hM
  replace h1 := h1.m0 hM
  replace h2 := h2.m0 hM
  replace h3 := h3.m0 hM
  clear hM
  refine regM T hS (sp := []) (ks := [1, 2, 3, 4]) (bs := [5]) (sy' := ⟨[(1, V (.slice a2 l_.length c2)), (2, I state), (3, V (.slice a3 picks.length c3)), (4, Pt 5 0)], [(5, (24, [I o_.States, I o_.Kinds, I o_.Init, V (.slice a1 o_.Rows.length c1)]))]⟩) (by kernel_rfl) ?_
  intro ρ a w154 χ155 hS hE hr
  replace hO := hO.mv hE rfl rfl
  replace h1 := h1.mv hE rfl
  replace h2 := h2.mv hE rfl
  replace h3 := h3.mv hE rfl
  clear hE hr
  refine wseq ?_
  refine regO ?_
  refine opsP T hS 2 (sp := []) (ks := [1, 2, 3, 4, 17, 18]) (bs := [5]) (sy' := ⟨[(1, V (.slice a2 l_.length c2)), (2, I state), (3, V (.slice a3 picks.length c3)), (4, Pt 5 0), (17, V (.agg #[.int .i64 o_.States, .int .i64 o_.Kinds, .int .i64 o_.Init, .slice a1 o_.Rows.length c1])), (18, I state)], [(5, (24, [I o_.States, I o_.Kinds, I o_.Init, V (.slice a1 o_.Rows.length c1)]))]⟩) (by kernel_rfl) ?_
  intro a hS
  obtain ⟨hq, hm⟩ := hm
  refine op1 (call hS (by kernel_rfl) (by kernel_rfl) hb44 (by kernel_rfl) (fun _ _ => rfl) (k44 _ _ o_ state a1 c1 hq h1) ?_)
  intro v101 a w102 χ103 hE hp hS
  clear hq
  replace hO := hO.mv hE rfl rfl
  replace h1 := h1.mv hE rfl
  replace h2 := h2.mv hE rfl
  replace h3 := h3.mv hE rfl
  clear hE
  obtain ⟨r104, hr⟩ : ∃ r, run_may o_ state = r := ⟨_, rfl⟩
  replace hm := hm r104 hr
  rw [hr] at hp
  clear hr
  subst hp
  refine endP T hS (sp := []) (ks := [1, 2, 3, 4, 11]) (bs := [5]) (sy' := ⟨[(1, V (.slice a2 l_.length c2)), (2, I state), (3, V (.slice a3 picks.length c3)), (4, Pt 5 0), (11, I r104)], [(5, (24, [I o_.States, I o_.Kinds, I o_.Init, V (.slice a1 o_.Rows.length c1)]))]⟩) (by kernel_rfl) ?_
  intro a hS
  refine regP T hS (sp := []) (ks := [1, 2, 3, 4, 11, 21]) (bs := [5]) (sy' := ⟨[(1, V (.slice a2 l_.length c2)), (2, I state), (3, V (.slice a3 picks.length c3)), (4, Pt 5 0), (11, I r104), (21, B (r104 != 0))], [(5, (24, [I o_.States, I o_.Kinds, I o_.Init, V (.slice a1 o_.Rows.length c1)]))]⟩) (by kernel_rfl) ?_
  intro a hS
  refine wcond hS (b := (r104 != 0)) (by kernel_rfl) (fun hb => ?_) (fun hb => ?_)
  · replace hm := hm.1 hb
    refine regP T hS (sp := []) (ks := [8, 9, 10]) (bs := []) (sy' := ⟨[(8, I 0), (9, I (-1)), (10, I r104)], []⟩) (by kernel_rfl) ?_
    intro a hS
    refine wret ?_
    exact fin T hS hO (fun c => c) rfl (r := [.int .i64 0, .int .i64 (-1), .int .i64 r104]) (by kernel_rfl) (fun χ' hM hC => ⟨(0, (-1), r104), hm, rfl⟩)
  · replace hm := hm.2 hb
    refine wskip ?_
    refine regO ?_
    refine opsP T hS 3 (sp := []) (ks := [2, 3, 23, 24, 25]) (bs := []) (sy' := ⟨[(2, I state), (3, V (.slice a3 picks.length c3)), (23, V (.agg #[.int .i64 o_.States, .int .i64 o_.Kinds, .int .i64 o_.Init, .slice a1 o_.Rows.length c1])), (24, V (.slice a2 l_.length c2)), (25, I state)], []⟩) (by kernel_rfl) ?_
    intro a hS
    refine op1 (call hS (by kernel_rfl) (by kernel_rfl) hb45 (by kernel_rfl) (fun _ _ => rfl) (k45 _ _ o_ l_ state a1 c1 a2 c2 2113 701 702 703 704 h1 h2) ?_)
    intro v105 a w106 χ107 hE hp hS
    replace hO := hO.mv hE rfl rfl
    replace h1 := h1.mv hE rfl
    replace h2 := h2.mv hE rfl
    replace h3 := h3.mv hE rfl
    clear hE
    obtain ⟨a109, c110, r113, a114, c115, b117, b118, b119, b120, hp, h111, h116, hc121, hc122, h112, hc123, hc124⟩ := hp
    obtain ⟨r108, hr⟩ : ∃ r, run_runner o_ l_ state = r := ⟨_, rfl⟩
    replace hm := hm r108 hr
    rw [hr] at h111 h116 hc121 hc123 hc124 h112
    clear hr
    subst hp
    replace hm := hm (h111.sm (by kernel_rfl))
    replace hm := hm (h116.sm (by kernel_rfl))
    replace hS := hS.newbox (id := 701) (t := 25) (cs := [V (.slice a109 r108.1.length c110)]) (by kernel_rfl) (by kernel_rfl) hc121 rfl
    replace hS := hS.newbox (id := 702) (t := 85) (cs := [V (.map (some r113))]) (by kernel_rfl) (by kernel_rfl) hc122 rfl
    replace hS := hS.newbox (id := 703) (t := 24) (cs := [I r108.2.2.1.States, I r108.2.2.1.Kinds, I r108.2.2.1.Init, V (.slice a114 r108.2.2.1.Rows.length c115)]) (by kernel_rfl) (by kernel_rfl) hc123 rfl
    replace hS := hS.newbox (id := 704) (t := 3) (cs := [I r108.2.2.2]) (by kernel_rfl) (by kernel_rfl) hc124 rfl
    replace hS := hS.convS (t := 26) (x := V (.func (.func 68) #[] #[.pointer (some ⟨b117, 0, none⟩), .pointer (some ⟨b118, 0, none⟩), .pointer (some ⟨b119, 0, none⟩), .pointer (some ⟨b120, 0, none⟩)])) (y := .f (.func 68) [] [.p 701 0, .p 702 0, .p 703 0, .p 704 0]) (by kernel_rfl) rfl
    generalize (upd (upd (upd (upd ρ 701 b117) 702 b118) 703 b119) 704 b120) = ρ at hS
    clear hc121 hc122 hc123 hc124
    refine endP T hS (sp := []) (ks := [2, 3, 12]) (bs := [701, 702, 703, 704]) (sy' := ⟨[(2, I state), (3, V (.slice a3 picks.length c3)), (12, .f (.func 68) [] [.p 701 0, .p 702 0, .p 703 0, .p 704 0])], [(701, (25, [V (.slice a109 r108.1.length c110)])), (702, (85, [V (.map (some r113))])), (703, (24, [I r108.2.2.1.States, I r108.2.2.1.Kinds, I r108.2.2.1.Init, V (.slice a114 r108.2.2.1.Rows.length c115)])), (704, (3, [I r108.2.2.2]))]⟩) (by kernel_rfl) ?_
    intro a hS
    refine regP T hS (sp := []) (ks := [3, 8, 12]) (bs := [701, 702, 703, 704]) (sy' := ⟨[(3, V (.slice a3 picks.length c3)), (8, I state), (12, .f (.func 68) [] [.p 701 0, .p 702 0, .p 703 0, .p 704 0])], [(701, (25, [V (.slice a109 r108.1.length c110)])), (702, (85, [V (.map (some r113))])), (703, (24, [I r108.2.2.1.States, I r108.2.2.1.Kinds, I r108.2.2.1.Init, V (.slice a114 r108.2.2.1.Rows.length c115)])), (704, (3, [I r108.2.2.2]))]⟩) (by kernel_rfl) ?_
    intro a hS
    refine wcut (fun a w => ∃ (ρ : Nat → Nat) (χ : Nat → Nat) (end_126 : Int), VC16_J1 picks Q end_126 ∧ St Try.f16.ntmps ⟨[(3, V (.slice a3 picks.length c3)), (8, I end_126)], []⟩ ρ a w χ ∧ Old w0 χ0 w χ ∧ RS tApi_Pick w χ a3 picks c3) ?_ ?_
    · refine regP T hS (sp := []) (ks := [3, 8, 12, 28, 29, 30]) (bs := [701, 702, 703, 704]) (sy' := ⟨[(3, V (.slice a3 picks.length c3)), (8, I state), (12, .f (.func 68) [] [.p 701 0, .p 702 0, .p 703 0, .p 704 0]), (28, V (.slice a3 picks.length c3)), (29, I ((picks.length : Nat) : Int)), (30, I 0)], [(701, (25, [V (.slice a109 r108.1.length c110)])), (702, (85, [V (.map (some r113))])), (703, (24, [I r108.2.2.1.States, I r108.2.2.1.Kinds, I r108.2.2.1.Init, V (.slice a114 r108.2.2.1.Rows.length c115)])), (704, (3, [I r108.2.2.2]))]⟩) (by kernel_rfl) ?_
      intro a hS
      refine wblock ?_
      obtain ⟨I1, μ1, hm0, hm⟩ := hm
      refine wloop (σ := Int × Int × (List (Int × Int)) × Int) (fun s a w => ∃ (ρ : Nat → Nat) (χ : Nat → Nat), I1 s.1 s.2.1 s.2.2.1 s.2.2.2 ∧ St Try.f16.ntmps ⟨[(3, V (.slice a3 picks.length c3)), (8, I s.1), (12, .f (.func 68) [] [.p 701 0, .p 702 0, .p 703 0, .p 704 0]), (28, V (.slice a3 picks.length c3)), (29, I ((picks.length : Nat) : Int)), (30, I s.2.1)], [(701, (25, [V (.slice a109 r108.1.length c110)])), (702, (85, [V (.map (some r113))])), (703, (24, [I r108.2.2.1.States, I r108.2.2.1.Kinds, I r108.2.2.1.Init, V (.slice a114 r108.2.2.1.Rows.length c115)])), (704, (3, [I s.2.2.2]))]⟩ ρ a w χ ∧ Old w0 χ0 w χ ∧ RS tApi_Pick w χ a3 picks c3 ∧ RS tApi_Pick w χ a3 picks c3 ∧ RS tApi_Oper w χ a109 r108.1 c110 ∧ OM kI tI false w χ 2113 r113 s.2.2.1 ∧ RS tApi_Row w χ a114 r108.2.2.1.Rows c115) (fun s => μ1 s.1 s.2.1 s.2.2.1 s.2.2.2) (⟨state, 0, r108.2.1, r108.2.2.2⟩) ?_ ?_
      · exact ⟨ρ, _, hm0, hS.sel [3, 8, 12, 28, 29, 30] [701, 702, 703, 704] (by kernel_rfl), hO, h3, h3, h111, h112, h116⟩
      · rintro ⟨end_128, x_130, x_132, x_135⟩ a w151 ⟨ρ, χ150, hI, hS, hO, h127, h129, h131, h133, h134⟩
        replace hm := hm end_128 x_130 x_132 x_135 hI
        clear hI hm0
        refine regP T hS (sp := []) (ks := [3, 8, 12, 28, 29, 30, 31]) (bs := [701, 702, 703, 704]) (sy' := ⟨[(3, V (.slice a3 picks.length c3)), (8, I end_128), (12, .f (.func 68) [] [.p 701 0, .p 702 0, .p 703 0, .p 704 0]), (28, V (.slice a3 picks.length c3)), (29, I ((picks.length : Nat) : Int)), (30, I x_130), (31, B (decide (x_130 < ((picks.length : Nat) : Int))))], [(701, (25, [V (.slice a109 r108.1.length c110)])), (702, (85, [V (.map (some r113))])), (703, (24, [I r108.2.2.1.States, I r108.2.2.1.Kinds, I r108.2.2.1.Init, V (.slice a114 r108.2.2.1.Rows.length c115)])), (704, (3, [I x_135]))]⟩) (by kernel_rfl) ?_
        intro a hS
        refine wseq ?_
        refine wcond hS (b := decide (x_130 < ((picks.length : Nat) : Int))) (by kernel_rfl) (fun hb => ?_) (fun hb => ?_)
        · replace hm := hm.1 hb
          refine wskip ?_
          refine wseq ?_
          refine wblock ?_
          refine regO ?_
          refine opsP T hS 1 (sp := []) (ks := [3, 12, 28, 29, 30, 32]) (bs := [701, 702, 703, 704]) (sy' := ⟨[(3, V (.slice a3 picks.length c3)), (12, .f (.func 68) [] [.p 701 0, .p 702 0, .p 703 0, .p 704 0]), (28, V (.slice a3 picks.length c3)), (29, I ((picks.length : Nat) : Int)), (30, I x_130), (32, I x_130)], [(701, (25, [V (.slice a109 r108.1.length c110)])), (702, (85, [V (.map (some r113))])), (703, (24, [I r108.2.2.1.States, I r108.2.2.1.Kinds, I r108.2.2.1.Init, V (.slice a114 r108.2.2.1.Rows.length c115)])), (704, (3, [I x_135]))]⟩) (by kernel_rfl) ?_
          intro a hS
          obtain ⟨hq, hm⟩ := hm
          refine op1 (index (e := 52) (k := .i64) T hS (by kernel_rfl) (by kernel_rfl) (by kernel_rfl) (by kernel_rfl) h129 (by kernel_rfl) (by kernel_rfl) hq.1 hq.2 ?_)
          intro A136 a h137 hS
          clear hq
          refine op1 (loadA T hS (by kernel_rfl) (by kernel_rfl) (by kernel_rfl) h137 (by kernel_rfl) (by kernel_rfl) ?_)
          intro v138 a hv hS
          subst hv
          refine endM T hS (sp := []) (ks := [3, 12, 13, 14, 28, 29, 30]) (bs := [15, 701, 702, 703, 704]) (sy' := ⟨[(3, V (.slice a3 picks.length c3)), (12, .f (.func 68) [] [.p 701 0, .p 702 0, .p 703 0, .p 704 0]), (13, I x_130), (14, Pt 15 0), (28, V (.slice a3 picks.length c3)), (29, I ((picks.length : Nat) : Int)), (30, I x_130)], [(15, (52, [I ((gi picks x_130).Oper), I ((gi picks x_130).Result)])), (701, (25, [V (.slice a109 r108.1.length c110)])), (702, (85, [V (.map (some r113))])), (703, (24, [I r108.2.2.1.States, I r108.2.2.1.Kinds, I r108.2.2.1.Init, V (.slice a114 r108.2.2.1.Rows.length c115)])), (704, (3, [I x_135]))]⟩) (by kernel_rfl) ?_
          intro ρ a w148 χ149 hS hE hr
          replace hO := hO.mv hE rfl rfl
          replace h127 := h127.mv hE rfl
          replace h129 := h129.mv hE rfl
          replace h131 := h131.mv hE rfl
          replace h133 := h133.mv hE rfl rfl
          replace h134 := h134.mv hE rfl
          clear hE hr
          refine regO ?_
          refine opsP T hS 2 (sp := []) (ks := [3, 12, 13, 28, 29, 30, 36, 37]) (bs := [701, 702, 703, 704]) (sy' := ⟨[(3, V (.slice a3 picks.length c3)), (12, .f (.func 68) [] [.p 701 0, .p 702 0, .p 703 0, .p 704 0]), (13, I x_130), (28, V (.slice a3 picks.length c3)), (29, I ((picks.length : Nat) : Int)), (30, I x_130), (36, .f (.func 68) [] [.p 701 0, .p 702 0, .p 703 0, .p 704 0]), (37, V (.agg #[.int .i64 ((gi picks x_130).Oper), .int .i64 ((gi picks x_130).Result)]))], [(701, (25, [V (.slice a109 r108.1.length c110)])), (702, (85, [V (.map (some r113))])), (703, (24, [I r108.2.2.1.States, I r108.2.2.1.Kinds, I r108.2.2.1.Init, V (.slice a114 r108.2.2.1.Rows.length c115)])), (704, (3, [I x_135]))]⟩) (by kernel_rfl) ?_
          intro a hS
          refine op1 (callCR (fi := []) (cp := [.p 701 0, .p 702 0, .p 703 0, .p 704 0]) hS (by kernel_rfl) (by kernel_rfl) hb68 (by kernel_rfl) (by kernel_rfl) (k68 _ _ (gi picks x_130) r108.1 x_132 r108.2.2.1 x_135 a109 c110 r113 2113 a114 c115 (ρ 701) 701 (ρ 702) 702 (ρ 703) 703 (ρ 704) 704 h131 h133 h134 (hS.cell (id := 701) (t := 25) (cs := [V (.slice a109 r108.1.length c110)]) (by kernel_rfl)) (hS.cell (id := 702) (t := 85) (cs := [V (.map (some r113))]) (by kernel_rfl)) (hS.cell (id := 703) (t := 24) (cs := [I r108.2.2.1.States, I r108.2.2.1.Kinds, I r108.2.2.1.Init, V (.slice a114 r108.2.2.1.Rows.length c115)]) (by kernel_rfl)) (hS.cell (id := 704) (t := 3) (cs := [I x_135]) (by kernel_rfl)) ⟨by decide, by decide⟩) ?_)
          intro v139 a w140 χ141 hE hp hS
          clear h133
          replace hO := hO.mv hE rfl rfl
          replace h127 := h127.mv hE rfl
          replace h129 := h129.mv hE rfl
          replace h131 := h131.mv hE rfl
          replace h134 := h134.mv hE rfl
          clear hE
          obtain ⟨hp, hc144, hc145, h143, hc146, hc147⟩ := hp
          obtain ⟨r142, hr⟩ : ∃ r, run_runner_1 (gi picks x_130) r108.1 x_132 r108.2.2.1 x_135 = r := ⟨_, rfl⟩
          replace hm := hm r142 hr
          rw [hr] at hp hc147 h143
          clear hr
          subst hp
          replace hS := hS.addbox (id := 701) (t := 25) (cs := [V (.slice a109 r108.1.length c110)]) (by kernel_rfl) hc144
          replace hS := hS.addbox (id := 702) (t := 85) (cs := [V (.map (some r113))]) (by kernel_rfl) hc145
          replace hS := hS.addbox (id := 703) (t := 24) (cs := [I r108.2.2.1.States, I r108.2.2.1.Kinds, I r108.2.2.1.Init, V (.slice a114 r108.2.2.1.Rows.length c115)]) (by kernel_rfl) hc146
          replace hS := hS.addbox (id := 704) (t := 3) (cs := [I r142.2.2.2]) (by kernel_rfl) hc147
          clear hc144 hc145 hc146 hc147
          refine endP T hS (sp := []) (ks := [3, 12, 13, 15, 16, 28, 29, 30]) (bs := [701, 702, 703, 704]) (sy' := ⟨[(3, V (.slice a3 picks.length c3)), (12, .f (.func 68) [] [.p 701 0, .p 702 0, .p 703 0, .p 704 0]), (13, I x_130), (15, I r142.1), (16, I r142.2.1), (28, V (.slice a3 picks.length c3)), (29, I ((picks.length : Nat) : Int)), (30, I x_130)], [(701, (25, [V (.slice a109 r108.1.length c110)])), (702, (85, [V (.map (some r113))])), (703, (24, [I r108.2.2.1.States, I r108.2.2.1.Kinds, I r108.2.2.1.Init, V (.slice a114 r108.2.2.1.Rows.length c115)])), (704, (3, [I r142.2.2.2]))]⟩) (by kernel_rfl) ?_
          intro a hS
          refine wseq ?_
          refine regP T hS (sp := []) (ks := [3, 12, 13, 15, 16, 28, 29, 30, 42]) (bs := [701, 702, 703, 704]) (sy' := ⟨[(3, V (.slice a3 picks.length c3)), (12, .f (.func 68) [] [.p 701 0, .p 702 0, .p 703 0, .p 704 0]), (13, I x_130), (15, I r142.1), (16, I r142.2.1), (28, V (.slice a3 picks.length c3)), (29, I ((picks.length : Nat) : Int)), (30, I x_130), (42, B (r142.2.1 != 0))], [(701, (25, [V (.slice a109 r108.1.length c110)])), (702, (85, [V (.map (some r113))])), (703, (24, [I r108.2.2.1.States, I r108.2.2.1.Kinds, I r108.2.2.1.Init, V (.slice a114 r108.2.2.1.Rows.length c115)])), (704, (3, [I r142.2.2.2]))]⟩) (by kernel_rfl) ?_
          intro a hS
          refine wcond hS (b := (r142.2.1 != 0)) (by kernel_rfl) (fun hb => ?_) (fun hb => ?_)
          · replace hm := hm.1 hb
            refine regP T hS (sp := []) (ks := [8, 9, 10]) (bs := []) (sy' := ⟨[(8, I 0), (9, I x_130), (10, I r142.2.1)], []⟩) (by kernel_rfl) ?_
            intro a hS
            refine wret ?_
            exact fin T hS hO (fun c => c) rfl (r := [.int .i64 0, .int .i64 x_130, .int .i64 r142.2.1]) (by kernel_rfl) (fun χ' hM hC => ⟨(0, x_130, r142.2.1), hm, rfl⟩)
          · replace hm := hm.2 hb
            refine wskip ?_
            refine region (endP T hS (sp := []) (ks := [3, 8, 12, 28, 29, 30]) (bs := [701, 702, 703, 704]) (sy' := ⟨[(3, V (.slice a3 picks.length c3)), (8, I r142.1), (12, .f (.func 68) [] [.p 701 0, .p 702 0, .p 703 0, .p 704 0]), (28, V (.slice a3 picks.length c3)), (29, I ((picks.length : Nat) : Int)), (30, I x_130)], [(701, (25, [V (.slice a109 r108.1.length c110)])), (702, (85, [V (.map (some r113))])), (703, (24, [I r108.2.2.1.States, I r108.2.2.1.Kinds, I r108.2.2.1.Init, V (.slice a114 r108.2.2.1.Rows.length c115)])), (704, (3, [I r142.2.2.2]))]⟩) (by kernel_rfl) ?_)
            intro a hS
            refine region (endP T hS (sp := []) (ks := [3, 8, 12, 28, 29, 30]) (bs := [701, 702, 703, 704]) (sy' := ⟨[(3, V (.slice a3 picks.length c3)), (8, I r142.1), (12, .f (.func 68) [] [.p 701 0, .p 702 0, .p 703 0, .p 704 0]), (28, V (.slice a3 picks.length c3)), (29, I ((picks.length : Nat) : Int)), (30, I (IntKind.i64.wrap (x_130 + 1)))], [(701, (25, [V (.slice a109 r108.1.length c110)])), (702, (85, [V (.map (some r113))])), (703, (24, [I r108.2.2.1.States, I r108.2.2.1.Kinds, I r108.2.2.1.Init, V (.slice a114 r108.2.2.1.Rows.length c115)])), (704, (3, [I r142.2.2.2]))]⟩) (by kernel_rfl) ?_)
            intro a hS
            exact ⟨⟨r142.1, IntKind.i64.wrap (x_130 + 1), r142.2.2.1, r142.2.2.2⟩, ⟨ρ, _, hm.1, hS.sel [3, 8, 12, 28, 29, 30] [701, 702, 703, 704] (by kernel_rfl), hO, h127, h129, h131, h143, h134⟩, hm.2⟩
        · replace hm := hm.2 hb
          refine wexit (by rfl) ?_
          exact ⟨ρ, _, end_128, hm, hS.sel [3, 8] [] (by kernel_rfl), hO, h127⟩
    · rintro a w153 ⟨ρ, χ152, end_126, hm, hS, hO, h125⟩
      unfold VC16_J1 at hm
      refine regP T hS (sp := []) (ks := [8, 9, 10]) (bs := []) (sy' := ⟨[(8, I end_126), (9, I ((picks.length : Nat) : Int)), (10, I 0)], []⟩) (by kernel_rfl) ?_
      intro a hS
      refine wret ?_
      exact fin T hS hO (fun c => c) rfl (r := [.int .i64 end_126, .int .i64 ((picks.length : Nat) : Int), .int .i64 0]) (by kernel_rfl) (fun χ' hM hC => ⟨(end_126, ((picks.length : Nat) : Int), 0), hm, rfl⟩)
theorem C16 (k44 : S44) (k45 : S45) (k68 : S68) (v : ∀ (o_ : Api_Object) (l_ : List Api_Oper) (state : Int) (picks : List Api_Pick), preO3 o_ l_ state picks → VC16 o_ l_ state picks (fun r => r = run_From o_ l_ state picks)) : S16 := by
  intro w χ o_ l_ state picks a1 c1 a2 c2 a3 c3   hp h1 h2 h3
  refine (W16 k44 k45 k68 w χ o_ l_ state picks a1 c1 a2 c2 a3 c3   _ (v o_ l_ state picks hp) h1 h2 h3).mono ?_
  rintro _ _ _ _ ⟨r, rfl, h⟩
  exact h
def S14 : Prop := ∀ (w : World) (χ : Nat → Nat) (o_ : Api_Object) (l_ : List Api_Oper) (picks : List Api_Pick) (a1 : Option Addr) (c1 : Nat) (a2 : Option Addr) (c2 : Nat) (a3 : Option Addr) (c3 : Nat), preO2 o_ l_ picks → RS tApi_Row w χ a1 o_.Rows c1 → RS tApi_Oper w χ a2 l_ c2 → RS tApi_Pick w χ a3 picks c3 → Ret Try.prog 14 #[.agg #[.int .i64 o_.States, .int .i64 o_.Kinds, .int .i64 o_.Init, .slice a1 o_.Rows.length c1], .slice a2 l_.length c2, .slice a3 picks.length c3] xnone w χ (fun w χ' v => v = .tuple #[.int .i64 ((run_Picks o_ l_ picks).1), .int .i64 ((run_Picks o_ l_ picks).2.1), .int .i64 ((run_Picks o_ l_ picks).2.2)])
theorem hb14 : hasBody Try.prog 14 = true := by kernel_rfl
/-- replevin/run.Picks -/
theorem W14 (k16 : S16) (w0 : World) (χ0 : Nat → Nat) (o_ : Api_Object) (l_ : List Api_Oper) (picks : List Api_Pick) (a1 : Option Addr) (c1 : Nat) (a2 : Option Addr) (c2 : Nat) (a3 : Option Addr) (c3 : Nat) (Q : Int × Int × Int → Prop) (hm : VC14 o_ l_ picks Q) (h1 : RS tApi_Row w0 χ0 a1 o_.Rows c1) (h2 : RS tApi_Oper w0 χ0 a2 l_ c2) (h3 : RS tApi_Pick w0 χ0 a3 picks c3) :
    Ret Try.prog 14 #[.agg #[.int .i64 o_.States, .int .i64 o_.Kinds, .int .i64 o_.Init, .slice a1 o_.Rows.length c1], .slice a2 l_.length c2, .slice a3 picks.length c3] xnone w0 χ0 (fun w χ' v => ∃ r, Q r ∧ v = .tuple #[.int .i64 r.1, .int .i64 r.2.1, .int .i64 r.2.2]) := by
  unfold VC14 at hm
  replace hm := hm (h1.sm (by kernel_rfl))
  replace hm := hm (h2.sm (by kernel_rfl))
  replace hm := hm (h3.sm (by kernel_rfl))
  refine enter Try.func14 rfl (vals := [.agg #[.int .i64 o_.States, .int .i64 o_.Kinds, .int .i64 o_.Init, .slice a1 o_.Rows.length c1], .slice a2 l_.length c2, .slice a3 picks.length c3]) (by kernel_rfl) ?_
  intro ρ a hS hO hM
  replace h1 := h1.m0 hM
  replace h2 := h2.m0 hM
  replace h3 := h3.m0 hM
  clear hM
  refine regM T hS (sp := []) (ks := [1, 2, 3]) (bs := [4]) (sy' := ⟨[(1, V (.slice a2 l_.length c2)), (2, V (.slice a3 picks.length c3)), (3, Pt 4 0)], [(4, (24, [I o_.States, I o_.Kinds, I o_.Init, V (.slice a1 o_.Rows.length c1)]))]⟩) (by kernel_rfl) ?_
  intro ρ a w105 χ106 hS hE hr
  replace hO := hO.mv hE rfl rfl
  replace h1 := h1.mv hE rfl
  replace h2 := h2.mv hE rfl
  replace h3 := h3.mv hE rfl
  clear hE hr
  refine regO ?_
  refine opsP T hS 5 (sp := []) (ks := [9, 10, 12, 13]) (bs := []) (sy' := ⟨[(9, V (.agg #[.int .i64 o_.States, .int .i64 o_.Kinds, .int .i64 o_.Init, .slice a1 o_.Rows.length c1])), (10, V (.slice a2 l_.length c2)), (12, I o_.Init), (13, V (.slice a3 picks.length c3))], []⟩) (by kernel_rfl) ?_
  intro a hS
  obtain ⟨hq, hm⟩ := hm
  refine op1 (call hS (by kernel_rfl) (by kernel_rfl) hb16 (by kernel_rfl) (fun _ _ => rfl) (k16 _ _ o_ l_ o_.Init picks a1 c1 a2 c2 a3 c3 hq h1 h2 h3) ?_)
  intro v101 a w102 χ103 hE hp hS
  clear hq
  replace hO := hO.mv hE rfl rfl
  replace h1 := h1.mv hE rfl
  replace h2 := h2.mv hE rfl
  replace h3 := h3.mv hE rfl
  clear hE
  obtain ⟨r104, hr⟩ : ∃ r, run_From o_ l_ o_.Init picks = r := ⟨_, rfl⟩
  replace hm := hm r104 hr
  rw [hr] at hp
  clear hr
  subst hp
  refine endP T hS (sp := []) (ks := [6, 7, 8]) (bs := []) (sy' := ⟨[(6, I r104.1), (7, I r104.2.1), (8, I r104.2.2)], []⟩) (by kernel_rfl) ?_
  intro a hS
  refine wret ?_
  exact fin T hS hO (fun c => c) rfl (r := [.int .i64 r104.1, .int .i64 r104.2.1, .int .i64 r104.2.2]) (by kernel_rfl) (fun χ' hM hC => ⟨(r104.1, r104.2.1, r104.2.2), hm, rfl⟩)
theorem C14 (k16 : S16) (v : ∀ (o_ : Api_Object) (l_ : List Api_Oper) (picks : List Api_Pick), preO2 o_ l_ picks → VC14 o_ l_ picks (fun r => r = run_Picks o_ l_ picks)) : S14 := by
  intro w χ o_ l_ picks a1 c1 a2 c2 a3 c3   hp h1 h2 h3
  refine (W14 k16 w χ o_ l_ picks a1 c1 a2 c2 a3 c3   _ (v o_ l_ picks hp) h1 h2 h3).mono ?_
  rintro _ _ _ _ ⟨r, rfl, h⟩
  exact h
def S71 : Prop := ∀ (w : World) (χ : Nat → Nat) (picks : List Api_Pick) (a1 : Option Addr) (c1 : Nat) (col1 : Nat) (col2 : Nat), RS tApi_Pick w χ a1 picks c1 → Ret Try.prog 71 #[.slice a1 picks.length c1] xnone w χ (fun w χ' v => ∃ (rr1 : Nat) (rb1 : Nat), v = .func (.func 80) #[] #[.pointer (some ⟨rb1, 0, none⟩)] ∧ Cell w χ' rb1 col2 85 [.map (some rr1)] ∧ OM kI tI false w χ' col1 rr1 (witness_absent picks))
theorem hb71 : hasBody Try.prog 71 = true := by kernel_rfl
/-- replevin/witness.absent -/
theorem W71 (w0 : World) (χ0 : Nat → Nat) (picks : List Api_Pick) (a1 : Option Addr) (c1 : Nat) (col1 : Nat) (col2 : Nat) (Q : (List (Int × Int)) → Prop) (hm : VC71 picks Q) (h1 : RS tApi_Pick w0 χ0 a1 picks c1) :
    Ret Try.prog 71 #[.slice a1 picks.length c1] xnone w0 χ0 (fun w χ' v => ∃ r, Q r ∧ ∃ (rr1 : Nat) (rb1 : Nat), v = .func (.func 80) #[] #[.pointer (some ⟨rb1, 0, none⟩)] ∧ Cell w χ' rb1 col2 85 [.map (some rr1)] ∧ OM kI tI false w χ' col1 rr1 r) := by
  unfold VC71 at hm
  replace hm := hm (h1.sm (by kernel_rfl))
  refine enter Try.func71 rfl (vals := [.slice a1 picks.length c1]) (by kernel_rfl) ?_
  intro ρ a hS hO hM
  replace h1 := h1.m0 hM
  clear hM
  refine regP T hS (sp := []) (ks := [0]) (bs := []) (sy' := ⟨[(0, V (.slice a1 picks.length c1))], []⟩) (by kernel_rfl) ?_
  intro a hS
  refine regO ?_
  refine op1 (mkmap kI tI false 1007 hS (by kernel_rfl) (by kernel_rfl) ?_)
  intro r101 a w102 χ103 hE h104 hS
  replace hO := hO.mv hE rfl rfl
  replace h1 := h1.mv hE rfl
  clear hE
  refine endM T hS (sp := []) (ks := [0, 3]) (bs := [4]) (sy' := ⟨[(0, V (.slice a1 picks.length c1)), (3, Pt 4 0)], [(4, (85, [V (.map (some r101))]))]⟩) (by kernel_rfl) ?_
  intro ρ a w123 χ124 hS hE hr
  replace hO := hO.mv hE rfl rfl
  replace h1 := h1.mv hE rfl
  replace h104 := h104.mv hE rfl rfl
  clear hE hr
  refine wcut (fun a w => ∃ (ρ : Nat → Nat) (χ : Nat → Nat) (x_105 : List (Int × Int)), VC71_J1 Q x_105 ∧ St Try.f71.ntmps ⟨[(3, Pt 4 0)], [(4, (85, [V (.map (some r101))]))]⟩ ρ a w χ ∧ Old w0 χ0 w χ ∧ OM kI tI false w χ 1007 r101 x_105) ?_ ?_
  · refine regP T hS (sp := []) (ks := [3, 7, 8, 9]) (bs := [4]) (sy' := ⟨[(3, Pt 4 0), (7, V (.slice a1 picks.length c1)), (8, I ((picks.length : Nat) : Int)), (9, I 0)], [(4, (85, [V (.map (some r101))]))]⟩) (by kernel_rfl) ?_
    intro a hS
    refine wblock ?_
    obtain ⟨I1, μ1, hm0, hm⟩ := hm
    refine wloop (σ := Int × (List (Int × Int))) (fun s a w => ∃ (ρ : Nat → Nat) (χ : Nat → Nat), I1 s.1 s.2 ∧ St Try.f71.ntmps ⟨[(3, Pt 4 0), (7, V (.slice a1 picks.length c1)), (8, I ((picks.length : Nat) : Int)), (9, I s.1)], [(4, (85, [V (.map (some r101))]))]⟩ ρ a w χ ∧ Old w0 χ0 w χ ∧ RS tApi_Pick w χ a1 picks c1 ∧ OM kI tI false w χ 1007 r101 s.2) (fun s => μ1 s.1 s.2) (⟨0, ([] : List (Int × Int))⟩) ?_ ?_
    · exact ⟨ρ, _, hm0, hS.sel [3, 7, 8, 9] [4] (by kernel_rfl), hO, h1, h104⟩
    · rintro ⟨x_108, x_109⟩ a w120 ⟨ρ, χ119, hI, hS, hO, h107, h110⟩
      replace hm := hm x_108 x_109 hI
      clear hI hm0
      refine regP T hS (sp := []) (ks := [3, 7, 8, 9, 10]) (bs := [4]) (sy' := ⟨[(3, Pt 4 0), (7, V (.slice a1 picks.length c1)), (8, I ((picks.length : Nat) : Int)), (9, I x_108), (10, B (decide (x_108 < ((picks.length : Nat) : Int))))], [(4, (85, [V (.map (some r101))]))]⟩) (by kernel_rfl) ?_
      intro a hS
      refine wseq ?_
      refine wcond hS (b := decide (x_108 < ((picks.length : Nat) : Int))) (by kernel_rfl) (fun hb => ?_) (fun hb => ?_)
      · replace hm := hm.1 hb
        refine wskip ?_
        refine wseq ?_
        refine wblock ?_
        refine regO ?_
        obtain ⟨hq, hm⟩ := hm
        refine op1 (index (e := 52) (k := .i64) T hS (by kernel_rfl) (by kernel_rfl) (by kernel_rfl) (by kernel_rfl) h107 (by kernel_rfl) (by kernel_rfl) hq.1 hq.2 ?_)
        intro A111 a h112 hS
        clear hq
        refine op1 (loadA T hS (by kernel_rfl) (by kernel_rfl) (by kernel_rfl) h112 (by kernel_rfl) (by kernel_rfl) ?_)
        intro v113 a hv hS
        subst hv
        refine endM T hS (sp := []) (ks := [3, 5, 7, 8, 9]) (bs := [4, 6]) (sy' := ⟨[(3, Pt 4 0), (5, Pt 6 0), (7, V (.slice a1 picks.length c1)), (8, I ((picks.length : Nat) : Int)), (9, I x_108)], [(4, (85, [V (.map (some r101))])), (6, (52, [I ((gi picks x_108).Oper), I ((gi picks x_108).Result)]))]⟩) (by kernel_rfl) ?_
        intro ρ a w117 χ118 hS hE hr
        replace hO := hO.mv hE rfl rfl
        replace h107 := h107.mv hE rfl
        replace h110 := h110.mv hE rfl rfl
        clear hE hr
        refine region ?_
        refine opsP T hS 3 (sp := []) (ks := [3, 7, 8, 9, 13, 15]) (bs := [4]) (sy' := ⟨[(3, Pt 4 0), (7, V (.slice a1 picks.length c1)), (8, I ((picks.length : Nat) : Int)), (9, I x_108), (13, V (.map (some r101))), (15, I ((gi picks x_108).Oper))], [(4, (85, [V (.map (some r101))]))]⟩) (by kernel_rfl) ?_
        intro a hS
        refine op1 (mlook kI tI false (zv := .int .i64 0) (z := 0) ((gi picks x_108).Oper) hS (by kernel_rfl) (by kernel_rfl) (by kernel_rfl) (by kernel_rfl) Try.underlying85 Try.underlying3 (by kernel_rfl) rfl h110 ?_)
        intro v114 a hv hS
        replace hv : tI.R _ _ [v114] _ := hv
        cases hv
        refine opsP T hS 1 (sp := []) (ks := [3, 7, 8, 9, 13, 15, 17]) (bs := [4]) (sy' := ⟨[(3, Pt 4 0), (7, V (.slice a1 picks.length c1)), (8, I ((picks.length : Nat) : Int)), (9, I x_108), (13, V (.map (some r101))), (15, I ((gi picks x_108).Oper)), (17, I (IntKind.i64.wrap (((mget x_109 ((gi picks x_108).Oper)).getD 0) + 1)))], [(4, (85, [V (.map (some r101))]))]⟩) (by kernel_rfl) ?_
        intro a hS
        refine op1 (mset kI tI false (v := I (IntKind.i64.wrap (((mget x_109 ((gi picks x_108).Oper)).getD 0) + 1))) (u := IntKind.i64.wrap (((mget x_109 ((gi picks x_108).Oper)).getD 0) + 1)) ((gi picks x_108).Oper) hS (by kernel_rfl) (by kernel_rfl) (by kernel_rfl) (by kernel_rfl) Try.underlying85 Try.underlying3 (by kernel_rfl) h110 rfl ?_)
        intro a w115 hE h116 hS
        clear h110
        replace hO := hO.mv hE rfl rfl
        replace h107 := h107.mv hE rfl
        clear hE
        refine doneK ?_
        refine region (endP T hS (sp := []) (ks := [3, 7, 8, 9]) (bs := [4]) (sy' := ⟨[(3, Pt 4 0), (7, V (.slice a1 picks.length c1)), (8, I ((picks.length : Nat) : Int)), (9, I (IntKind.i64.wrap (x_108 + 1)))], [(4, (85, [V (.map (some r101))]))]⟩) (by kernel_rfl) ?_)
        intro a hS
        exact ⟨⟨IntKind.i64.wrap (x_108 + 1), mput x_109 ((gi picks x_108).Oper) (IntKind.i64.wrap (((mget x_109 ((gi picks x_108).Oper)).getD 0) + 1))⟩, ⟨ρ, _, hm.1, hS.sel [3, 7, 8, 9] [4] (by kernel_rfl), hO, h107, h116⟩, hm.2⟩
      · replace hm := hm.2 hb
        refine wexit (by rfl) ?_
        exact ⟨ρ, _, x_109, hm, hS.sel [3] [4] (by kernel_rfl), hO, h110⟩
  · rintro a w122 ⟨ρ, χ121, x_105, hm, hS, hO, h106⟩
    unfold VC71_J1 at hm
    refine regP T hS (sp := []) (ks := [2]) (bs := [4]) (sy' := ⟨[(2, .f (.func 80) [] [.p 4 0])], [(4, (85, [V (.map (some r101))]))]⟩) (by kernel_rfl) ?_
    intro a hS
    refine wret ?_
    exact fin T hS hO (fun c => (bif Nat.beq c 4 then col2 else (bif Nat.beq c 1007 then col1 else c))) rfl (r := [.func (.func 80) #[] #[.pointer (some ⟨ρ 4, 0, none⟩)]]) (by kernel_rfl) (fun χ' hM hC => ⟨x_105, hm, r101, (ρ 4), rfl, ((hS.cell (id := 4) (t := 85) (cs := [V (.map (some r101))]) (by kernel_rfl)).out (f := (fun c => (bif Nat.beq c 4 then col2 else (bif Nat.beq c 1007 then col1 else c)))) hC (by kernel_rfl) (by kernel_rfl) rfl), (h106.out (f := (fun c => (bif Nat.beq c 4 then col2 else (bif Nat.beq c 1007 then col1 else c)))) hM hC (by kernel_rfl) (by kernel_rfl))⟩)
theorem C71 (v : ∀ (picks : List Api_Pick), VC71 picks (fun r => r = witness_absent picks)) : S71 := by
  intro w χ picks a1 c1 col1 col2  h1
  refine (W71 w χ picks a1 c1 col1 col2  _ (v picks) h1).mono ?_
  rintro _ _ _ _ ⟨r, rfl, h⟩
  exact h
def S80 : Prop := ∀ (w : World) (χ : Nat → Nat) (i_ : Int) (cap1 : List (Int × Int)) (r1 : Nat) (m1 : Nat) (b1 : Nat) (i1 : Nat), OM kI tI false w χ m1 r1 cap1 → Cell w χ b1 i1 85 [.map (some r1)] → Apart [i1, m1] → Ret Try.prog 80 #[.int .i64 i_, .pointer (some ⟨b1, 0, none⟩)] (pR [i1, m1]) w χ (fun w χ' v => v = .bool (witness_absent_1 i_ cap1) ∧ Cell w χ' b1 i1 85 [.map (some r1)] ∧ OM kI tI false w χ' m1 r1 cap1)
theorem hb80 : hasBody Try.prog 80 = true := by kernel_rfl
/-- replevin/witness.absent$1 -/
theorem W80 (w0 : World) (χ0 : Nat → Nat) (i_ : Int) (cap1 : List (Int × Int)) (r1 : Nat) (m1 : Nat) (b1 : Nat) (i1 : Nat) (Q : Bool → Prop) (hm : VC80 i_ cap1 Q) (h1 : OM kI tI false w0 χ0 m1 r1 cap1) (hc1 : Cell w0 χ0 b1 i1 85 [.map (some r1)]) (hA : Apart [i1, m1]) :
    Ret Try.prog 80 #[.int .i64 i_, .pointer (some ⟨b1, 0, none⟩)] (pR [i1, m1]) w0 χ0 (fun w χ' v => ∃ r, Q r ∧ v = .bool r ∧ Cell w χ' b1 i1 85 [.map (some r1)] ∧ OM kI tI false w χ' m1 r1 cap1) := by
  unfold VC80 at hm
  refine enterR Try.func80 rfl (f0of [(i1, 901), (m1, 2001)]) (fun id => (bif Nat.beq id 901 then b1 else 0)) (args := [I i_, Pt 901 0]) (bxs := [(901, (85, [V (.map (some r1))]))]) (by kernel_rfl) rfl (BoxesOK.cons (by kernel_rfl) (hc1.map (f0of_at 0 hA.1 rfl)) BoxesOK.nil) (f0of_0 (fun q hq => (hA.2 q.1 (List.mem_map.2 ⟨q, hq, rfl⟩)).1)) ?_
  intro a hS hO hM
  have hP : Pin [(901, b1)] (fun id => (bif Nat.beq id 901 then b1 else 0)) := by intro q hq; simp at hq; rcases hq with rfl <;> rfl
  generalize (fun id => (bif Nat.beq id 901 then b1 else 0)) = ρ at hS hP
  clear hc1
  replace h1 := h1.map (f := f0of [(i1, 901), (m1, 2001)]) (f0of_at 1 hA.1 rfl) hM
  clear hM
  refine regP T hS (sp := []) (ks := [0, 1]) (bs := [901]) (sy' := ⟨[(0, I i_), (1, Pt 901 0)], [(901, (85, [V (.map (some r1))]))]⟩) (by kernel_rfl) ?_
  intro a hS
  refine regO ?_
  refine opsP T hS 2 (sp := []) (ks := [4, 5]) (bs := [901]) (sy' := ⟨[(4, V (.map (some r1))), (5, I i_)], [(901, (85, [V (.map (some r1))]))]⟩) (by kernel_rfl) ?_
  intro a hS
  refine op1 (mlook kI tI false (zv := .int .i64 0) (z := 0) i_ hS (by kernel_rfl) (by kernel_rfl) (by kernel_rfl) (by kernel_rfl) Try.underlying85 Try.underlying3 (by kernel_rfl) rfl h1 ?_)
  intro v101 a hv hS
  replace hv : tI.R _ _ [v101] _ := hv
  cases hv
  refine endP T hS (sp := []) (ks := [3]) (bs := [901]) (sy' := ⟨[(3, B (((mget cap1 i_).getD 0) == 0))], [(901, (85, [V (.map (some r1))]))]⟩) (by kernel_rfl) ?_
  intro a hS
  refine wret ?_
  exact finR T hS hO (fun c h => f0of_zero (by kernel_rfl) h) (fun c h => f0of_else (l := [(i1, 901), (m1, 2001)]) h) (f1of [(i1, 901), (m1, 2001)]) rfl (r := [.bool (((mget cap1 i_).getD 0) == 0)]) (by kernel_rfl) (fun χ' hM hC => ⟨(((mget cap1 i_).getD 0) == 0), hm, rfl, ((hS.cell (id := 901) (t := 85) (cs := [V (.map (some r1))]) (by kernel_rfl)).out (f := (f1of [(i1, 901), (m1, 2001)])) hC (by kernel_rfl) (by kernel_rfl) (hP.at 0 rfl)), (h1.out (f := (f1of [(i1, 901), (m1, 2001)])) hM hC (by kernel_rfl) (by kernel_rfl))⟩)
theorem C80 (v : ∀ (i_ : Int) (cap1 : List (Int × Int)), VC80 i_ cap1 (fun r => r = witness_absent_1 i_ cap1)) : S80 := by
  intro w χ i_ cap1 r1 m1  b1 i1 h1 hc1 hA
  refine (W80 w χ i_ cap1 r1 m1  b1 i1 _ (v i_ cap1) h1 hc1 hA).mono ?_
  rintro _ _ _ _ ⟨r, rfl, h⟩
  exact h
def S52 : Prop := ∀ (w : World) (χ : Nat → Nat) (l_ : List Api_Oper) (picks : List Api_Pick) (pending : Bool) (a1 : Option Addr) (c1 : Nat) (a2 : Option Addr) (c2 : Nat), preT3 l_ picks pending → RS tApi_Oper w χ a1 l_ c1 → RS tApi_Pick w χ a2 picks c2 → Ret Try.prog 52 #[.slice a1 l_.length c1, .slice a2 picks.length c2, .bool pending] xnone w χ (fun w χ' v => ∃ (ra1 : Option Addr) (rc1 : Nat), v = .slice ra1 (witness_those l_ picks pending).length rc1 ∧ RS tI w χ' ra1 (witness_those l_ picks pending) rc1)
theorem hb52 : hasBody Try.prog 52 = true := by kernel_rfl
/-- replevin/witness.those -/
theorem W52 (k71 : S71) (k80 : S80) (w0 : World) (χ0 : Nat → Nat) (l_ : List Api_Oper) (picks : List Api_Pick) (pending : Bool) (a1 : Option Addr) (c1 : Nat) (a2 : Option Addr) (c2 : Nat) (Q : (List Int) → Prop) (hm : VC52 l_ picks pending Q) (h1 : RS tApi_Oper w0 χ0 a1 l_ c1) (h2 : RS tApi_Pick w0 χ0 a2 picks c2) :
    Ret Try.prog 52 #[.slice a1 l_.length c1, .slice a2 picks.length c2, .bool pending] xnone w0 χ0 (fun w χ' v => ∃ r, Q r ∧ ∃ (ra1 : Option Addr) (rc1 : Nat), v = .slice ra1 r.length rc1 ∧ RS tI w χ' ra1 r rc1) := by
  unfold VC52 at hm
  replace hm := hm (h1.sm (by kernel_rfl))
  replace hm := hm (h2.sm (by kernel_rfl))
  refine enter Try.func52 rfl (vals := [.slice a1 l_.length c1, .slice a2 picks.length c2, .bool pending]) (by kernel_rfl) ?_
  intro ρ a hS hO hM
  replace h1 := h1.m0 hM
  replace h2 := h2.m0 hM
  clear hM
  refine regP T hS (sp := []) (ks := [0, 1, 2]) (bs := []) (sy' := ⟨[(0, V (.slice a1 l_.length c1)), (1, V (.slice a2 picks.length c2)), (2, B pending)], []⟩) (by kernel_rfl) ?_
  intro a hS
  refine regO ?_
  refine opsP T hS 1 (sp := []) (ks := [0, 2, 11]) (bs := []) (sy' := ⟨[(0, V (.slice a1 l_.length c1)), (2, B pending), (11, V (.slice a2 picks.length c2))], []⟩) (by kernel_rfl) ?_
  intro a hS
  refine op1 (call hS (by kernel_rfl) (by kernel_rfl) hb71 (by kernel_rfl) (fun _ _ => rfl) (k71 _ _ picks a2 c2 2106 701 h2) ?_)
  intro v101 a w102 χ103 hE hp hS
  replace hO := hO.mv hE rfl rfl
  replace h1 := h1.mv hE rfl
  replace h2 := h2.mv hE rfl
  clear hE
  obtain ⟨r106, b107, hp, hc108, h105⟩ := hp
  obtain ⟨r104, hr⟩ : ∃ r, witness_absent picks = r := ⟨_, rfl⟩
  replace hm := hm r104 hr
  rw [hr] at h105
  clear hr
  subst hp
  replace hS := hS.newbox (id := 701) (t := 85) (cs := [V (.map (some r106))]) (by kernel_rfl) (by kernel_rfl) hc108 rfl
  replace hS := hS.convS (t := 12) (x := V (.func (.func 80) #[] #[.pointer (some ⟨b107, 0, none⟩)])) (y := .f (.func 80) [] [.p 701 0]) (by kernel_rfl) rfl
  generalize (upd ρ 701 b107) = ρ at hS
  clear hc108
  refine endP T hS (sp := []) (ks := [0, 2, 7]) (bs := [701]) (sy' := ⟨[(0, V (.slice a1 l_.length c1)), (2, B pending), (7, .f (.func 80) [] [.p 701 0])], [(701, (85, [V (.map (some r106))]))]⟩) (by kernel_rfl) ?_
  intro a hS
  refine regP T hS (sp := []) (ks := [0, 2, 7, 8]) (bs := [701]) (sy' := ⟨[(0, V (.slice a1 l_.length c1)), (2, B pending), (7, .f (.func 80) [] [.p 701 0]), (8, V (.slice none 0 0))], [(701, (85, [V (.map (some r106))]))]⟩) (by kernel_rfl) ?_
  intro a hS
  refine wcut (fun a w => ∃ (ρ : Nat → Nat) (χ : Nat → Nat) (out_109 : List Int) (a110 : Option Addr) (c111 : Nat), VC52_J1 Q out_109 ∧ St Try.f52.ntmps ⟨[(8, V (.slice a110 out_109.length c111))], []⟩ ρ a w χ ∧ Old w0 χ0 w χ ∧ OS tI 3 w χ 1007 a110 out_109 c111) ?_ ?_
  · refine regP T hS (sp := []) (ks := [2, 7, 8, 13, 14, 15]) (bs := [701]) (sy' := ⟨[(2, B pending), (7, .f (.func 80) [] [.p 701 0]), (8, V (.slice none 0 0)), (13, V (.slice a1 l_.length c1)), (14, I ((l_.length : Nat) : Int)), (15, I 0)], [(701, (85, [V (.map (some r106))]))]⟩) (by kernel_rfl) ?_
    intro a hS
    refine wblock ?_
    obtain ⟨I1, μ1, hm0, hm⟩ := hm
    refine wloop (σ := (List Int) × Int) (fun s a w => ∃ (ρ : Nat → Nat) (χ : Nat → Nat) (a116 : Option Addr) (c117 : Nat), I1 s.1 s.2 ∧ St Try.f52.ntmps ⟨[(2, B pending), (7, .f (.func 80) [] [.p 701 0]), (8, V (.slice a116 s.1.length c117)), (13, V (.slice a1 l_.length c1)), (14, I ((l_.length : Nat) : Int)), (15, I s.2)], [(701, (85, [V (.map (some r106))]))]⟩ ρ a w χ ∧ Old w0 χ0 w χ ∧ OS tI 3 w χ 1007 a116 s.1 c117 ∧ RS tApi_Oper w χ a1 l_ c1 ∧ OM kI tI false w χ 2106 r106 r104) (fun s => μ1 s.1 s.2) (⟨[], 0⟩) ?_ ?_
    · exact ⟨ρ, _, none, 0, hm0, hS.sel [2, 7, 8, 13, 14, 15] [701] (by kernel_rfl), hO, (OS.nil _ _ _ _ _), h1, h105⟩
    · rintro ⟨out_115, x_120⟩ a w160 ⟨ρ, χ159, a116, c117, hI, hS, hO, h118, h119, h121⟩
      replace hm := hm out_115 x_120 hI
      clear hI hm0
      refine regP T hS (sp := []) (ks := [2, 7, 8, 13, 14, 15, 16]) (bs := [701]) (sy' := ⟨[(2, B pending), (7, .f (.func 80) [] [.p 701 0]), (8, V (.slice a116 out_115.length c117)), (13, V (.slice a1 l_.length c1)), (14, I ((l_.length : Nat) : Int)), (15, I x_120), (16, B (decide (x_120 < ((l_.length : Nat) : Int))))], [(701, (85, [V (.map (some r106))]))]⟩) (by kernel_rfl) ?_
      intro a hS
      refine wseq ?_
      refine wcond hS (b := decide (x_120 < ((l_.length : Nat) : Int))) (by kernel_rfl) (fun hb => ?_) (fun hb => ?_)
      · replace hm := hm.1 hb
        refine wskip ?_
        refine wcut (fun a w => ∃ (ρ : Nat → Nat) (χ : Nat → Nat) (out_122 : List Int) (a123 : Option Addr) (c124 : Nat), VC52_J2 I1 μ1 out_115 x_120 out_122 ∧ St Try.f52.ntmps ⟨[(2, B pending), (7, .f (.func 80) [] [.p 701 0]), (8, V (.slice a123 out_122.length c124)), (13, V (.slice a1 l_.length c1)), (14, I ((l_.length : Nat) : Int)), (15, I x_120)], [(701, (85, [V (.map (some r106))]))]⟩ ρ a w χ ∧ Old w0 χ0 w χ ∧ OS tI 3 w χ 1007 a123 out_122 c124 ∧ RS tApi_Oper w χ a1 l_ c1 ∧ OM kI tI false w χ 2106 r106 r104) ?_ ?_
        · refine wblock ?_
          refine regO ?_
          refine opsP T hS 1 (sp := []) (ks := [2, 7, 8, 13, 14, 15, 17]) (bs := [701]) (sy' := ⟨[(2, B pending), (7, .f (.func 80) [] [.p 701 0]), (8, V (.slice a116 out_115.length c117)), (13, V (.slice a1 l_.length c1)), (14, I ((l_.length : Nat) : Int)), (15, I x_120), (17, I x_120)], [(701, (85, [V (.map (some r106))]))]⟩) (by kernel_rfl) ?_
          intro a hS
          obtain ⟨hq, hm⟩ := hm
          refine op1 (index (e := 54) (k := .i64) T hS (by kernel_rfl) (by kernel_rfl) (by kernel_rfl) (by kernel_rfl) h119 (by kernel_rfl) (by kernel_rfl) hq.1 hq.2 ?_)
          intro A128 a h129 hS
          clear hq
          refine op1 (loadA T hS (by kernel_rfl) (by kernel_rfl) (by kernel_rfl) h129 (by kernel_rfl) (by kernel_rfl) ?_)
          intro v130 a hv hS
          subst hv
          refine endM T hS (sp := []) (ks := [2, 7, 8, 9, 10, 13, 14, 15]) (bs := [11, 701]) (sy' := ⟨[(2, B pending), (7, .f (.func 80) [] [.p 701 0]), (8, V (.slice a116 out_115.length c117)), (9, I x_120), (10, Pt 11 0), (13, V (.slice a1 l_.length c1)), (14, I ((l_.length : Nat) : Int)), (15, I x_120)], [(11, (54, [I ((gi l_ x_120).Prc), I ((gi l_ x_120).Kind), I ((gi l_ x_120).Start), I ((gi l_ x_120).End), I ((gi l_ x_120).Result)])), (701, (85, [V (.map (some r106))]))]⟩) (by kernel_rfl) ?_
          intro ρ a w155 χ156 hS hE hr
          replace hO := hO.mv hE rfl rfl
          replace h118 := h118.mv hE rfl rfl
          replace h119 := h119.mv hE rfl
          replace h121 := h121.mv hE rfl rfl
          clear hE hr
          refine wcut (fun a w => ∃ (ρ : Nat → Nat) (χ : Nat → Nat) (out_131 : List Int) (x_136 : Bool) (a132 : Option Addr) (c133 : Nat), VC52_J3 I1 μ1 out_115 x_120 out_131 x_136 ∧ St Try.f52.ntmps ⟨[(2, B pending), (7, .f (.func 80) [] [.p 701 0]), (8, V (.slice a132 out_131.length c133)), (9, I x_120), (13, V (.slice a1 l_.length c1)), (14, I ((l_.length : Nat) : Int)), (15, I x_120), (29, B x_136)], [(701, (85, [V (.map (some r106))]))]⟩ ρ a w χ ∧ Old w0 χ0 w χ ∧ OS tI 3 w χ 1007 a132 out_131 c133 ∧ RS tApi_Oper w χ a1 l_ c1 ∧ OM kI tI false w χ 2106 r106 r104) ?_ ?_
          · refine region ?_
            refine opsP T hS 6 (sp := []) (ks := [2, 7, 8, 9, 13, 14, 15, 25]) (bs := [701]) (sy' := ⟨[(2, B pending), (7, .f (.func 80) [] [.p 701 0]), (8, V (.slice a116 out_115.length c117)), (9, I x_120), (13, V (.slice a1 l_.length c1)), (14, I ((l_.length : Nat) : Int)), (15, I x_120), (25, B ((((gi l_ x_120).End) == (-1)) == pending))], [(701, (85, [V (.map (some r106))]))]⟩) (by kernel_rfl) ?_
            intro a hS
            rcases Bool.eq_false_or_eq_true ((((gi l_ x_120).End) == (-1)) == pending) with hb | hb
            · replace hS := hS.lit (t := 25) (by kernel_rfl) hb
              replace hm := hm.1 hb
              refine opsP T hS 2 (sp := []) (ks := [2, 7, 8, 9, 13, 14, 15, 25, 26, 27]) (bs := [701]) (sy' := ⟨[(2, B pending), (7, .f (.func 80) [] [.p 701 0]), (8, V (.slice a116 out_115.length c117)), (9, I x_120), (13, V (.slice a1 l_.length c1)), (14, I ((l_.length : Nat) : Int)), (15, I x_120), (25, B true), (26, .f (.func 80) [] [.p 701 0]), (27, I x_120)], [(701, (85, [V (.map (some r106))]))]⟩) (by kernel_rfl) ?_
              intro a hS
              refine op1 (callCR (fi := []) (cp := [.p 701 0]) hS (by kernel_rfl) (by kernel_rfl) hb80 (by kernel_rfl) (by kernel_rfl) (k80 _ _ x_120 r104 r106 2106 (ρ 701) 701 h121 (hS.cell (id := 701) (t := 85) (cs := [V (.map (some r106))]) (by kernel_rfl)) ⟨by decide, by decide⟩) ?_)
              intro v147 a w148 χ149 hE hp hS
              clear h121
              replace hO := hO.mv hE rfl rfl
              replace h118 := h118.mv hE rfl rfl
              replace h119 := h119.mv hE rfl
              clear hE
              obtain ⟨hp, hc151, h152⟩ := hp
              obtain ⟨r150, hr⟩ : ∃ r, witness_absent_1 x_120 r104 = r := ⟨_, rfl⟩
              replace hm := hm r150 hr
              rw [hr] at hp
              clear hr
              subst hp
              replace hS := hS.addbox (id := 701) (t := 85) (cs := [V (.map (some r106))]) (by kernel_rfl) hc151
              clear hc151
              refine endP T hS (sp := []) (ks := [2, 7, 8, 9, 13, 14, 15, 26, 27, 28, 29]) (bs := [701]) (sy' := ⟨[(2, B pending), (7, .f (.func 80) [] [.p 701 0]), (8, V (.slice a116 out_115.length c117)), (9, I x_120), (13, V (.slice a1 l_.length c1)), (14, I ((l_.length : Nat) : Int)), (15, I x_120), (26, .f (.func 80) [] [.p 701 0]), (27, I x_120), (28, B r150), (29, B r150)], [(701, (85, [V (.map (some r106))]))]⟩) (by kernel_rfl) ?_
              intro a hS
              exact ⟨ρ, _, out_115, r150, a116, c117, hm, hS.sel [2, 7, 8, 9, 13, 14, 15, 29] [701] (by kernel_rfl), hO, h118, h119, h152⟩
            · replace hS := hS.lit (t := 25) (by kernel_rfl) hb
              replace hm := hm.2 hb
              refine endP T hS (sp := []) (ks := [2, 7, 8, 9, 13, 14, 15, 29]) (bs := [701]) (sy' := ⟨[(2, B pending), (7, .f (.func 80) [] [.p 701 0]), (8, V (.slice a116 out_115.length c117)), (9, I x_120), (13, V (.slice a1 l_.length c1)), (14, I ((l_.length : Nat) : Int)), (15, I x_120), (29, B false)], [(701, (85, [V (.map (some r106))]))]⟩) (by kernel_rfl) ?_
              intro a hS
              exact ⟨ρ, _, out_115, false, a116, c117, hm, hS.sel [2, 7, 8, 9, 13, 14, 15, 29] [701] (by kernel_rfl), hO, h118, h119, h121⟩
          · rintro a w154 ⟨ρ, χ153, out_131, x_136, a132, c133, hm, hS, hO, h134, h135, h137⟩
            unfold VC52_J3 at hm
            refine wcond hS (b := x_136) (by kernel_rfl) (fun hb => ?_) (fun hb => ?_)
            · replace hm := hm.1 hb
              refine region ?_
              refine opsP T hS 2 (sp := []) (ks := [2, 7, 8, 13, 14, 15, 30, 31]) (bs := [701]) (sy' := ⟨[(2, B pending), (7, .f (.func 80) [] [.p 701 0]), (8, V (.slice a132 out_131.length c133)), (13, V (.slice a1 l_.length c1)), (14, I ((l_.length : Nat) : Int)), (15, I x_120), (30, V (.slice a132 out_131.length c133)), (31, I x_120)], [(701, (85, [V (.map (some r106))]))]⟩) (by kernel_rfl) ?_
              intro a hS
              refine op1 (lit (E := 3) (col := 0) (T := tI) (vals := [.int .i64 x_120]) (ys := [x_120]) T hS (by kernel_rfl) (by kernel_rfl) (by kernel_rfl) (by kernel_rfl) (by exact ⟨rfl, trivial⟩) rfl (by kernel_rfl) (by kernel_rfl) (by kernel_rfl) (by kernel_rfl) ?_)
              intro b138 a w139 χ140 hE h141 hN hS
              clear hN
              replace hO := hO.mv hE rfl rfl
              replace h134 := h134.mv hE rfl rfl
              replace h135 := h135.mv hE rfl
              replace h137 := h137.mv hE rfl rfl
              clear hE
              replace h141 := h141.rs0
              obtain ⟨hq, hm⟩ := hm
              obtain ⟨news, hN⟩ := h141.src
              refine op1 (append (E := 3) (T := tI) (col := 1007) (xs := out_131) T hS (by kernel_rfl) (by kernel_rfl) (by kernel_rfl) (by kernel_rfl) h134 hN (by kernel_rfl) (by kernel_rfl) (by kernel_rfl) (by kernel_rfl) hq ?_)
              intro a145 c146 a w142 χ143 hE h144 hS
              clear hq hN
              clear h134
              replace hO := hO.mv hE rfl rfl
              replace h135 := h135.mv hE rfl
              replace h137 := h137.mv hE rfl rfl
              replace h141 := h141.mv hE rfl
              clear hE
              refine endP T hS (sp := []) (ks := [2, 7, 8, 13, 14, 15]) (bs := [701]) (sy' := ⟨[(2, B pending), (7, .f (.func 80) [] [.p 701 0]), (8, V (.slice a145 (out_131 ++ [x_120]).length c146)), (13, V (.slice a1 l_.length c1)), (14, I ((l_.length : Nat) : Int)), (15, I x_120)], [(701, (85, [V (.map (some r106))]))]⟩) (by kernel_rfl) ?_
              intro a hS
              exact ⟨ρ, _, out_131 ++ [x_120], a145, c146, hm, hS.sel [2, 7, 8, 13, 14, 15] [701] (by kernel_rfl), hO, h144, h135, h137⟩
            · replace hm := hm.2 hb
              refine wskip ?_
              exact ⟨ρ, _, out_131, a132, c133, hm, hS.sel [2, 7, 8, 13, 14, 15] [701] (by kernel_rfl), hO, h134, h135, h137⟩
        · rintro a w158 ⟨ρ, χ157, out_122, a123, c124, hm, hS, hO, h125, h126, h127⟩
          unfold VC52_J2 at hm
          refine region (endP T hS (sp := []) (ks := [2, 7, 8, 13, 14, 15]) (bs := [701]) (sy' := ⟨[(2, B pending), (7, .f (.func 80) [] [.p 701 0]), (8, V (.slice a123 out_122.length c124)), (13, V (.slice a1 l_.length c1)), (14, I ((l_.length : Nat) : Int)), (15, I (IntKind.i64.wrap (x_120 + 1)))], [(701, (85, [V (.map (some r106))]))]⟩) (by kernel_rfl) ?_)
          intro a hS
          exact ⟨⟨out_122, IntKind.i64.wrap (x_120 + 1)⟩, ⟨ρ, _, a123, c124, hm.1, hS.sel [2, 7, 8, 13, 14, 15] [701] (by kernel_rfl), hO, h125, h126, h127⟩, hm.2⟩
      · replace hm := hm.2 hb
        refine wexit (by rfl) ?_
        exact ⟨ρ, _, out_115, a116, c117, hm, hS.sel [8] [] (by kernel_rfl), hO, h118⟩
  · rintro a w162 ⟨ρ, χ161, out_109, a110, c111, hm, hS, hO, h112⟩
    unfold VC52_J1 at hm
    refine regP T hS (sp := []) (ks := [6]) (bs := []) (sy' := ⟨[(6, V (.slice a110 out_109.length c111))], []⟩) (by kernel_rfl) ?_
    intro a hS
    refine wret ?_
    obtain ⟨χ113, hE, hF⟩ := h112.freeze (by decide)
    replace hS := hS.ev hE (xone_box (by kernel_rfl))
    replace hO := hO.mv hE rfl rfl
    have h114 := hF; clear hE hF
    exact fin T hS hO (fun c => c) rfl (r := [.slice a110 out_109.length c111]) (by kernel_rfl) (fun χ' hM hC => ⟨out_109, hm, a110, c111, rfl, h114.m0 hM⟩)
theorem C52 (k71 : S71) (k80 : S80) (v : ∀ (l_ : List Api_Oper) (picks : List Api_Pick) (pending : Bool), preT3 l_ picks pending → VC52 l_ picks pending (fun r => r = witness_those l_ picks pending)) : S52 := by
  intro w χ l_ picks pending a1 c1 a2 c2   hp h1 h2
  refine (W52 k71 k80 w χ l_ picks pending a1 c1 a2 c2   _ (v l_ picks pending hp) h1 h2).mono ?_
  rintro _ _ _ _ ⟨r, rfl, h⟩
  exact h
def S27 : Prop := ∀ (w : World) (χ : Nat → Nat) (l_ : List Api_Oper) (picks : List Api_Pick) (a1 : Option Addr) (c1 : Nat) (a2 : Option Addr) (c2 : Nat), preT2 l_ picks → RS tApi_Oper w χ a1 l_ c1 → RS tApi_Pick w χ a2 picks c2 → Ret Try.prog 27 #[.slice a1 l_.length c1, .slice a2 picks.length c2] xnone w χ (fun w χ' v => ∃ (ra1 : Option Addr) (rc1 : Nat), v = .slice ra1 (witness_Missing l_ picks).length rc1 ∧ RS tI w χ' ra1 (witness_Missing l_ picks) rc1)
theorem hb27 : hasBody Try.prog 27 = true := by kernel_rfl
/-- replevin/witness.Missing -/
theorem W27 (k52 : S52) (w0 : World) (χ0 : Nat → Nat) (l_ : List Api_Oper) (picks : List Api_Pick) (a1 : Option Addr) (c1 : Nat) (a2 : Option Addr) (c2 : Nat) (Q : (List Int) → Prop) (hm : VC27 l_ picks Q) (h1 : RS tApi_Oper w0 χ0 a1 l_ c1) (h2 : RS tApi_Pick w0 χ0 a2 picks c2) :
    Ret Try.prog 27 #[.slice a1 l_.length c1, .slice a2 picks.length c2] xnone w0 χ0 (fun w χ' v => ∃ r, Q r ∧ ∃ (ra1 : Option Addr) (rc1 : Nat), v = .slice ra1 r.length rc1 ∧ RS tI w χ' ra1 r rc1) := by
  unfold VC27 at hm
  replace hm := hm (h1.sm (by kernel_rfl))
  replace hm := hm (h2.sm (by kernel_rfl))
  refine enter Try.func27 rfl (vals := [.slice a1 l_.length c1, .slice a2 picks.length c2]) (by kernel_rfl) ?_
  intro ρ a hS hO hM
  replace h1 := h1.m0 hM
  replace h2 := h2.m0 hM
  clear hM
  refine regP T hS (sp := []) (ks := [0, 1]) (bs := []) (sy' := ⟨[(0, V (.slice a1 l_.length c1)), (1, V (.slice a2 picks.length c2))], []⟩) (by kernel_rfl) ?_
  intro a hS
  refine regO ?_
  refine opsP T hS 2 (sp := []) (ks := [5, 6]) (bs := []) (sy' := ⟨[(5, V (.slice a1 l_.length c1)), (6, V (.slice a2 picks.length c2))], []⟩) (by kernel_rfl) ?_
  intro a hS
  obtain ⟨hq, hm⟩ := hm
  refine op1 (call hS (by kernel_rfl) (by kernel_rfl) hb52 (by kernel_rfl) (fun _ _ => rfl) (k52 _ _ l_ picks false a1 c1 a2 c2 hq h1 h2) ?_)
  intro v101 a w102 χ103 hE hp hS
  clear hq
  replace hO := hO.mv hE rfl rfl
  replace h1 := h1.mv hE rfl
  replace h2 := h2.mv hE rfl
  clear hE
  obtain ⟨a105, c106, hp, h107⟩ := hp
  obtain ⟨r104, hr⟩ : ∃ r, witness_those l_ picks false = r := ⟨_, rfl⟩
  replace hm := hm r104 hr
  rw [hr] at hp h107
  clear hr
  subst hp
  replace hm := hm (h107.sm (by kernel_rfl))
  refine endP T hS (sp := []) (ks := [4]) (bs := []) (sy' := ⟨[(4, V (.slice a105 r104.length c106))], []⟩) (by kernel_rfl) ?_
  intro a hS
  refine wret ?_
  exact fin T hS hO (fun c => c) rfl (r := [.slice a105 r104.length c106]) (by kernel_rfl) (fun χ' hM hC => ⟨r104, hm, a105, c106, rfl, h107.m0 hM⟩)
theorem C27 (k52 : S52) (v : ∀ (l_ : List Api_Oper) (picks : List Api_Pick), preT2 l_ picks → VC27 l_ picks (fun r => r = witness_Missing l_ picks)) : S27 := by
  intro w χ l_ picks a1 c1 a2 c2   hp h1 h2
  refine (W27 k52 w χ l_ picks a1 c1 a2 c2   _ (v l_ picks hp) h1 h2).mono ?_
  rintro _ _ _ _ ⟨r, rfl, h⟩
  exact h
def S53 : Prop := ∀ (w : World) (χ : Nat → Nat) (a_ : Api_Oper) (b_ : Api_Oper), Ret Try.prog 53 #[.agg #[.int .i64 a_.Prc, .int .i64 a_.Kind, .int .i64 a_.Start, .int .i64 a_.End, .int .i64 a_.Result], .agg #[.int .i64 b_.Prc, .int .i64 b_.Kind, .int .i64 b_.Start, .int .i64 b_.End, .int .i64 b_.Result]] xnone w χ (fun w χ' v => v = .bool (oper_Ahead a_ b_))
theorem hb53 : hasBody Try.prog 53 = true := by kernel_rfl
/-- replevin/oper.Ahead -/
theorem W53 (w0 : World) (χ0 : Nat → Nat) (a_ : Api_Oper) (b_ : Api_Oper) (Q : Bool → Prop) (hm : VC53 a_ b_ Q) :
    Ret Try.prog 53 #[.agg #[.int .i64 a_.Prc, .int .i64 a_.Kind, .int .i64 a_.Start, .int .i64 a_.End, .int .i64 a_.Result], .agg #[.int .i64 b_.Prc, .int .i64 b_.Kind, .int .i64 b_.Start, .int .i64 b_.End, .int .i64 b_.Result]] xnone w0 χ0 (fun w χ' v => ∃ r, Q r ∧ v = .bool r) := by
  unfold VC53 at hm
  refine enter Try.func53 rfl (vals := [.agg #[.int .i64 a_.Prc, .int .i64 a_.Kind, .int .i64 a_.Start, .int .i64 a_.End, .int .i64 a_.Result], .agg #[.int .i64 b_.Prc, .int .i64 b_.Kind, .int .i64 b_.Start, .int .i64 b_.End, .int .i64 b_.Result]]) (by kernel_rfl) ?_
  intro ρ a hS hO hM
  clear hM
  refine regM T hS (sp := []) (ks := [2, 3]) (bs := [3, 4]) (sy' := ⟨[(2, Pt 3 0), (3, Pt 4 0)], [(3, (54, [I a_.Prc, I a_.Kind, I a_.Start, I a_.End, I a_.Result])), (4, (54, [I b_.Prc, I b_.Kind, I b_.Start, I b_.End, I b_.Result]))]⟩) (by kernel_rfl) ?_
  intro ρ a w101 χ102 hS hE hr
  replace hO := hO.mv hE rfl rfl
  clear hE hr
  refine regP T hS (sp := [8]) (ks := [4]) (bs := []) (sy' := ⟨[(4, B ((decide (a_.End ≥ 0)) && (decide (a_.End < b_.Start))))], []⟩) (by kernel_rfl) ?_
  intro a hS
  refine wret ?_
  exact fin T hS hO (fun c => c) rfl (r := [.bool ((decide (a_.End ≥ 0)) && (decide (a_.End < b_.Start)))]) (by kernel_rfl) (fun χ' hM hC => ⟨((decide (a_.End ≥ 0)) && (decide (a_.End < b_.Start))), hm, rfl⟩)
theorem C53 (v : ∀ (a_ : Api_Oper) (b_ : Api_Oper), VC53 a_ b_ (fun r => r = oper_Ahead a_ b_)) : S53 := by
  intro w χ a_ b_    
  refine (W53 w χ a_ b_    _ (v a_ b_)).mono ?_
  rintro _ _ _ _ ⟨r, rfl, h⟩
  exact h
def S28 : Prop := ∀ (w : World) (χ : Nat → Nat) (l_ : List Api_Oper) (picks : List Api_Pick) (a1 : Option Addr) (c1 : Nat) (a2 : Option Addr) (c2 : Nat), RS tApi_Oper w χ a1 l_ c1 → RS tApi_Pick w χ a2 picks c2 → Ret Try.prog 28 #[.slice a1 l_.length c1, .slice a2 picks.length c2] xnone w χ (fun w χ' v => v = .int .i64 (witness_Order l_ picks))
theorem hb28 : hasBody Try.prog 28 = true := by kernel_rfl
/-- replevin/witness.Order -/
theorem W28 (k53 : S53) (w0 : World) (χ0 : Nat → Nat) (l_ : List Api_Oper) (picks : List Api_Pick) (a1 : Option Addr) (c1 : Nat) (a2 : Option Addr) (c2 : Nat) (Q : Int → Prop) (hm : VC28 l_ picks Q) (h1 : RS tApi_Oper w0 χ0 a1 l_ c1) (h2 : RS tApi_Pick w0 χ0 a2 picks c2) :
    Ret Try.prog 28 #[.slice a1 l_.length c1, .slice a2 picks.length c2] xnone w0 χ0 (fun w χ' v => ∃ r, Q r ∧ v = .int .i64 r) := by
  unfold VC28 at hm
  replace hm := hm (h1.sm (by kernel_rfl))
  replace hm := hm (h2.sm (by kernel_rfl))
  refine enter Try.func28 rfl (vals := [.slice a1 l_.length c1, .slice a2 picks.length c2]) (by kernel_rfl) ?_
  intro ρ a hS hO hM
  replace h1 := h1.m0 hM
  replace h2 := h2.m0 hM
  clear hM
  refine regP T hS (sp := []) (ks := [0, 1]) (bs := []) (sy' := ⟨[(0, V (.slice a1 l_.length c1)), (1, V (.slice a2 picks.length c2))], []⟩) (by kernel_rfl) ?_
  intro a hS
  refine wscope ?_
  refine regO ?_
  refine op1 (mkmap kI tI false 1011 hS (by kernel_rfl) (by kernel_rfl) ?_)
  intro r101 a w102 χ103 hE h104 hS
  replace hO := hO.mv hE rfl rfl
  replace h1 := h1.mv hE rfl
  replace h2 := h2.mv hE rfl
  clear hE
  refine endP T hS (sp := []) (ks := [0, 1, 5]) (bs := []) (sy' := ⟨[(0, V (.slice a1 l_.length c1)), (1, V (.slice a2 picks.length c2)), (5, V (.map (some r101)))], []⟩) (by kernel_rfl) ?_
  intro a hS
  refine wseq ?_
  refine wlabel ?_
  refine wcut (fun a w => ∃ (ρ : Nat → Nat) (χ : Nat → Nat), VC28_J1 Q ∧ St Try.f28.ntmps ⟨[], []⟩ ρ a w χ ∧ Old w0 χ0 w χ) ?_ ?_
  · refine regP T hS (sp := []) (ks := [0, 5, 11, 12, 13]) (bs := []) (sy' := ⟨[(0, V (.slice a1 l_.length c1)), (5, V (.map (some r101))), (11, V (.slice a2 picks.length c2)), (12, I ((picks.length : Nat) : Int)), (13, I 0)], []⟩) (by kernel_rfl) ?_
    intro a hS
    refine wblock ?_
    obtain ⟨I1, μ1, hm0, hm⟩ := hm
    refine wloop (σ := (List (Int × Int)) × Int) (fun s a w => ∃ (ρ : Nat → Nat) (χ : Nat → Nat), I1 s.1 s.2 ∧ St Try.f28.ntmps ⟨[(0, V (.slice a1 l_.length c1)), (5, V (.map (some r101))), (11, V (.slice a2 picks.length c2)), (12, I ((picks.length : Nat) : Int)), (13, I s.2)], []⟩ ρ a w χ ∧ Old w0 χ0 w χ ∧ RS tApi_Oper w χ a1 l_ c1 ∧ OM kI tI false w χ 1011 r101 s.1 ∧ RS tApi_Pick w χ a2 picks c2) (fun s => μ1 s.1 s.2) (⟨([] : List (Int × Int)), 0⟩) ?_ ?_
    · exact ⟨ρ, _, hm0, hS.sel [0, 5, 11, 12, 13] [] (by kernel_rfl), hO, h1, h104, h2⟩
    · rintro ⟨there_106, x_109⟩ a w159 ⟨ρ, χ158, hI, hS, hO, h105, h107, h108⟩
      replace hm := hm there_106 x_109 hI
      clear hI hm0
      refine regP T hS (sp := []) (ks := [0, 5, 11, 12, 13, 14]) (bs := []) (sy' := ⟨[(0, V (.slice a1 l_.length c1)), (5, V (.map (some r101))), (11, V (.slice a2 picks.length c2)), (12, I ((picks.length : Nat) : Int)), (13, I x_109), (14, B (decide (x_109 < ((picks.length : Nat) : Int))))], []⟩) (by kernel_rfl) ?_
      intro a hS
      refine wseq ?_
      refine wcond hS (b := decide (x_109 < ((picks.length : Nat) : Int))) (by kernel_rfl) (fun hb => ?_) (fun hb => ?_)
      · replace hm := hm.1 hb
        refine wskip ?_
        refine wcut (fun a w => ∃ (ρ : Nat → Nat) (χ : Nat → Nat) (there_111 : List (Int × Int)), VC28_J2 I1 μ1 there_106 x_109 there_111 ∧ St Try.f28.ntmps ⟨[(0, V (.slice a1 l_.length c1)), (5, V (.map (some r101))), (11, V (.slice a2 picks.length c2)), (12, I ((picks.length : Nat) : Int)), (13, I x_109)], []⟩ ρ a w χ ∧ Old w0 χ0 w χ ∧ RS tApi_Oper w χ a1 l_ c1 ∧ OM kI tI false w χ 1011 r101 there_111 ∧ RS tApi_Pick w χ a2 picks c2) ?_ ?_
        · refine wblock ?_
          refine regO ?_
          refine opsP T hS 1 (sp := []) (ks := [0, 5, 11, 12, 13, 15]) (bs := []) (sy' := ⟨[(0, V (.slice a1 l_.length c1)), (5, V (.map (some r101))), (11, V (.slice a2 picks.length c2)), (12, I ((picks.length : Nat) : Int)), (13, I x_109), (15, I x_109)], []⟩) (by kernel_rfl) ?_
          intro a hS
          obtain ⟨hq, hm⟩ := hm
          refine op1 (index (e := 52) (k := .i64) T hS (by kernel_rfl) (by kernel_rfl) (by kernel_rfl) (by kernel_rfl) h108 (by kernel_rfl) (by kernel_rfl) hq.1 hq.2 ?_)
          intro A114 a h115 hS
          clear hq
          refine op1 (loadA T hS (by kernel_rfl) (by kernel_rfl) (by kernel_rfl) h115 (by kernel_rfl) (by kernel_rfl) ?_)
          intro v116 a hv hS
          subst hv
          refine endM T hS (sp := []) (ks := [0, 5, 6, 7, 11, 12, 13]) (bs := [8]) (sy' := ⟨[(0, V (.slice a1 l_.length c1)), (5, V (.map (some r101))), (6, I x_109), (7, Pt 8 0), (11, V (.slice a2 picks.length c2)), (12, I ((picks.length : Nat) : Int)), (13, I x_109)], [(8, (52, [I ((gi picks x_109).Oper), I ((gi picks x_109).Result)]))]⟩) (by kernel_rfl) ?_
          intro ρ a w154 χ155 hS hE hr
          replace hO := hO.mv hE rfl rfl
          replace h105 := h105.mv hE rfl
          replace h107 := h107.mv hE rfl rfl
          replace h108 := h108.mv hE rfl
          clear hE hr
          refine wseq ?_
          refine regP T hS (sp := [21]) (ks := [0, 5, 6, 7, 11, 12, 13, 27]) (bs := [8]) (sy' := ⟨[(0, V (.slice a1 l_.length c1)), (5, V (.map (some r101))), (6, I x_109), (7, Pt 8 0), (11, V (.slice a2 picks.length c2)), (12, I ((picks.length : Nat) : Int)), (13, I x_109), (27, B ((decide (((gi picks x_109).Oper) < 0)) || (decide (((gi picks x_109).Oper) ≥ ((l_.length : Nat) : Int)))))], [(8, (52, [I ((gi picks x_109).Oper), I ((gi picks x_109).Result)]))]⟩) (by kernel_rfl) ?_
          intro a hS
          refine wcond hS (b := ((decide (((gi picks x_109).Oper) < 0)) || (decide (((gi picks x_109).Oper) ≥ ((l_.length : Nat) : Int))))) (by kernel_rfl) (fun hb => ?_) (fun hb => ?_)
          · replace hm := hm.1 hb
            refine wexit (by rfl) ?_
            exact ⟨ρ, _, there_106, hm, hS.sel [0, 5, 11, 12, 13] [] (by kernel_rfl), hO, h105, h107, h108⟩
          · replace hm := hm.2 hb
            refine wskip ?_
            refine wcut (fun a w => ∃ (ρ : Nat → Nat) (χ : Nat → Nat), VC28_J3 picks I1 μ1 there_106 x_109 ∧ St Try.f28.ntmps ⟨[(0, V (.slice a1 l_.length c1)), (5, V (.map (some r101))), (7, Pt 8 0), (11, V (.slice a2 picks.length c2)), (12, I ((picks.length : Nat) : Int)), (13, I x_109)], [(8, (52, [I ((gi picks x_109).Oper), I ((gi picks x_109).Result)]))]⟩ ρ a w χ ∧ Old w0 χ0 w χ ∧ RS tApi_Oper w χ a1 l_ c1 ∧ OM kI tI false w χ 1011 r101 there_106 ∧ RS tApi_Pick w χ a2 picks c2) ?_ ?_
            · refine regP T hS (sp := []) (ks := [0, 5, 6, 7, 11, 12, 13, 28, 29, 30]) (bs := [8]) (sy' := ⟨[(0, V (.slice a1 l_.length c1)), (5, V (.map (some r101))), (6, I x_109), (7, Pt 8 0), (11, V (.slice a2 picks.length c2)), (12, I ((picks.length : Nat) : Int)), (13, I x_109), (28, V (.slice a1 l_.length c1)), (29, I ((l_.length : Nat) : Int)), (30, I 0)], [(8, (52, [I ((gi picks x_109).Oper), I ((gi picks x_109).Result)]))]⟩) (by kernel_rfl) ?_
              intro a hS
              refine wblock ?_
              obtain ⟨I2, μ2, hm0, hm⟩ := hm
              refine wloop (σ := Int) (fun s a w => ∃ (ρ : Nat → Nat) (χ : Nat → Nat), I2 s ∧ St Try.f28.ntmps ⟨[(0, V (.slice a1 l_.length c1)), (5, V (.map (some r101))), (6, I x_109), (7, Pt 8 0), (11, V (.slice a2 picks.length c2)), (12, I ((picks.length : Nat) : Int)), (13, I x_109), (28, V (.slice a1 l_.length c1)), (29, I ((l_.length : Nat) : Int)), (30, I s)], [(8, (52, [I ((gi picks x_109).Oper), I ((gi picks x_109).Result)]))]⟩ ρ a w χ ∧ Old w0 χ0 w χ ∧ RS tApi_Oper w χ a1 l_ c1 ∧ OM kI tI false w χ 1011 r101 there_106 ∧ RS tApi_Pick w χ a2 picks c2 ∧ RS tApi_Oper w χ a1 l_ c1) (fun s => μ2 s) (0) ?_ ?_
              · exact ⟨ρ, _, hm0, hS.sel [0, 5, 6, 7, 11, 12, 13, 28, 29, 30] [8] (by kernel_rfl), hO, h105, h107, h108, h105⟩
              · rintro x_127 a w151 ⟨ρ, χ150, hI, hS, hO, h123, h124, h125, h126⟩
                replace hm := hm x_127 hI
                clear hI hm0
                refine regP T hS (sp := []) (ks := [0, 5, 6, 7, 11, 12, 13, 28, 29, 30, 31]) (bs := [8]) (sy' := ⟨[(0, V (.slice a1 l_.length c1)), (5, V (.map (some r101))), (6, I x_109), (7, Pt 8 0), (11, V (.slice a2 picks.length c2)), (12, I ((picks.length : Nat) : Int)), (13, I x_109), (28, V (.slice a1 l_.length c1)), (29, I ((l_.length : Nat) : Int)), (30, I x_127), (31, B (decide (x_127 < ((l_.length : Nat) : Int))))], [(8, (52, [I ((gi picks x_109).Oper), I ((gi picks x_109).Result)]))]⟩) (by kernel_rfl) ?_
                intro a hS
                refine wseq ?_
                refine wcond hS (b := decide (x_127 < ((l_.length : Nat) : Int))) (by kernel_rfl) (fun hb => ?_) (fun hb => ?_)
                · replace hm := hm.1 hb
                  refine wskip ?_
                  refine wseq ?_
                  refine wblock ?_
                  refine regO ?_
                  refine opsP T hS 1 (sp := []) (ks := [0, 5, 6, 7, 11, 12, 13, 28, 29, 30, 32]) (bs := [8]) (sy' := ⟨[(0, V (.slice a1 l_.length c1)), (5, V (.map (some r101))), (6, I x_109), (7, Pt 8 0), (11, V (.slice a2 picks.length c2)), (12, I ((picks.length : Nat) : Int)), (13, I x_109), (28, V (.slice a1 l_.length c1)), (29, I ((l_.length : Nat) : Int)), (30, I x_127), (32, I x_127)], [(8, (52, [I ((gi picks x_109).Oper), I ((gi picks x_109).Result)]))]⟩) (by kernel_rfl) ?_
                  intro a hS
                  obtain ⟨hq, hm⟩ := hm
                  refine op1 (index (e := 54) (k := .i64) T hS (by kernel_rfl) (by kernel_rfl) (by kernel_rfl) (by kernel_rfl) h126 (by kernel_rfl) (by kernel_rfl) hq.1 hq.2 ?_)
                  intro A128 a h129 hS
                  clear hq
                  refine op1 (loadA T hS (by kernel_rfl) (by kernel_rfl) (by kernel_rfl) h129 (by kernel_rfl) (by kernel_rfl) ?_)
                  intro v130 a hv hS
                  subst hv
                  refine endM T hS (sp := []) (ks := [0, 5, 6, 7, 8, 9, 11, 12, 13, 28, 29, 30]) (bs := [8, 10]) (sy' := ⟨[(0, V (.slice a1 l_.length c1)), (5, V (.map (some r101))), (6, I x_109), (7, Pt 8 0), (8, I x_127), (9, Pt 10 0), (11, V (.slice a2 picks.length c2)), (12, I ((picks.length : Nat) : Int)), (13, I x_109), (28, V (.slice a1 l_.length c1)), (29, I ((l_.length : Nat) : Int)), (30, I x_127)], [(8, (52, [I ((gi picks x_109).Oper), I ((gi picks x_109).Result)])), (10, (54, [I ((gi l_ x_127).Prc), I ((gi l_ x_127).Kind), I ((gi l_ x_127).Start), I ((gi l_ x_127).End), I ((gi l_ x_127).Result)]))]⟩) (by kernel_rfl) ?_
                  intro ρ a w148 χ149 hS hE hr
                  replace hO := hO.mv hE rfl rfl
                  replace h123 := h123.mv hE rfl
                  replace h124 := h124.mv hE rfl rfl
                  replace h125 := h125.mv hE rfl
                  replace h126 := h126.mv hE rfl
                  clear hE hr
                  refine wcut (fun a w => ∃ (ρ : Nat → Nat) (χ : Nat → Nat) (x_135 : Bool), VC28_J4 Q x_109 I2 μ2 x_127 x_135 ∧ St Try.f28.ntmps ⟨[(0, V (.slice a1 l_.length c1)), (5, V (.map (some r101))), (6, I x_109), (7, Pt 8 0), (11, V (.slice a2 picks.length c2)), (12, I ((picks.length : Nat) : Int)), (13, I x_109), (28, V (.slice a1 l_.length c1)), (29, I ((l_.length : Nat) : Int)), (30, I x_127), (47, B x_135)], [(8, (52, [I ((gi picks x_109).Oper), I ((gi picks x_109).Result)]))]⟩ ρ a w χ ∧ Old w0 χ0 w χ ∧ RS tApi_Oper w χ a1 l_ c1 ∧ OM kI tI false w χ 1011 r101 there_106 ∧ RS tApi_Pick w χ a2 picks c2 ∧ RS tApi_Oper w χ a1 l_ c1) ?_ ?_
                  · refine drawnX [8, 10] mixed hS ?_
                    intro w136 χ137 hS hE hD hH
                    replace hO := hO.mv hE rfl rfl
                    replace h123 := h123.mv hE rfl
                    replace h124 := h124.mv hE rfl rfl
                    replace h125 := h125.mv hE rfl
                    replace h126 := h126.mv hE rfl
                    clear hE
                    refine take T [0, 1, 2, 3] [8, 10] [0, 5, 6, 7, 8, 11, 12, 13, 28, 29, 30, 35, 36, 38] hS (by kernel_rfl) (by kernel_rfl) (by kernel_rfl) hH (listed' := #[true, true, true, true, false, false, false, false, false, false, false, false, false]) (fuel := 9) (sy' := ⟨[(0, V (.slice a1 l_.length c1)), (5, V (.map (some r101))), (6, I x_109), (7, Pt 8 0), (8, I x_127), (11, V (.slice a2 picks.length c2)), (12, I ((picks.length : Nat) : Int)), (13, I x_109), (28, V (.slice a1 l_.length c1)), (29, I ((l_.length : Nat) : Int)), (30, I x_127), (35, V (.agg #[.int .i64 ((gi l_ x_127).Prc), .int .i64 ((gi l_ x_127).Kind), .int .i64 ((gi l_ x_127).Start), .int .i64 ((gi l_ x_127).End), .int .i64 ((gi l_ x_127).Result)])), (36, V (.slice a1 l_.length c1)), (38, I ((gi picks x_109).Oper))], [(8, (52, [I ((gi picks x_109).Oper), I ((gi picks x_109).Result)])), (10, (54, [I ((gi l_ x_127).Prc), I ((gi l_ x_127).Kind), I ((gi l_ x_127).Start), I ((gi l_ x_127).End), I ((gi l_ x_127).Result)]))]⟩) (by kernel_rfl) (by rfl) ?_
                    intro a hS
                    obtain ⟨hq, hm⟩ := hm
                    refine dindex (e := 54) (k := .i64) T 4 hS (by kernel_rfl) (by kernel_rfl) (by kernel_rfl) (by rfl) (by kernel_rfl) hH (by kernel_rfl) (by kernel_rfl) h123 (by kernel_rfl) (by kernel_rfl) hq.1 hq.2 ?_
                    intro A138 a h139 hS
                    clear hq
                    have h139b := h139.here
                    refine dloadA T 5 hS (by kernel_rfl) (by kernel_rfl) (by kernel_rfl) (by rfl) (by kernel_rfl) hH (by kernel_rfl) h139 h139b (by kernel_rfl) (by kernel_rfl) ?_
                    intro v140 a hv hS
                    subst hv
                    refine only 6 (by kernel_rfl) (by rfl) (call hS (by kernel_rfl) (by kernel_rfl) hb53 (by kernel_rfl) (fun _ _ => rfl) (k53 _ _ (gi l_ x_127) (gi l_ ((gi picks x_109).Oper))) ?_)
                    intro v141 a w142 χ143 hE hp hS
                    replace hO := hO.mv hE rfl rfl
                    replace hD := hD.ev hE rfl
                    replace h123 := h123.mv hE rfl
                    replace h124 := h124.mv hE rfl rfl
                    replace h125 := h125.mv hE rfl
                    replace h126 := h126.mv hE rfl
                    replace h139 := h139.mv hE rfl
                    clear hE
                    obtain ⟨r144, hr⟩ : ∃ r, oper_Ahead (gi l_ x_127) (gi l_ ((gi picks x_109).Oper)) = r := ⟨_, rfl⟩
                    replace hm := hm r144 hr
                    rw [hr] at hp
                    clear hr
                    subst hp
                    replace hS := hS.sel [0, 5, 6, 7, 8, 11, 12, 13, 28, 29, 30, 35, 36, 38, 39, 40, 41] [8, 10] (sy' := ⟨[(0, V (.slice a1 l_.length c1)), (5, V (.map (some r101))), (6, I x_109), (7, Pt 8 0), (8, I x_127), (11, V (.slice a2 picks.length c2)), (12, I ((picks.length : Nat) : Int)), (13, I x_109), (28, V (.slice a1 l_.length c1)), (29, I ((l_.length : Nat) : Int)), (30, I x_127), (35, V (.agg #[.int .i64 ((gi l_ x_127).Prc), .int .i64 ((gi l_ x_127).Kind), .int .i64 ((gi l_ x_127).Start), .int .i64 ((gi l_ x_127).End), .int .i64 ((gi l_ x_127).Result)])), (36, V (.slice a1 l_.length c1)), (38, I ((gi picks x_109).Oper)), (39, V (.pointer (some A138))), (40, V (.agg #[.int .i64 ((gi l_ ((gi picks x_109).Oper)).Prc), .int .i64 ((gi l_ ((gi picks x_109).Oper)).Kind), .int .i64 ((gi l_ ((gi picks x_109).Oper)).Start), .int .i64 ((gi l_ ((gi picks x_109).Oper)).End), .int .i64 ((gi l_ ((gi picks x_109).Oper)).Result)])), (41, B r144)], [(8, (52, [I ((gi picks x_109).Oper), I ((gi picks x_109).Result)])), (10, (54, [I ((gi l_ x_127).Prc), I ((gi l_ x_127).Kind), I ((gi l_ x_127).Start), I ((gi l_ x_127).End), I ((gi l_ x_127).Result)]))]⟩) (by kernel_rfl)
                    refine andH (Hold.of hS (bks := [8, 10]) (by kernel_rfl) hD) ?_
                    intro hH
                    refine take T [7] [8, 10] [0, 5, 6, 7, 8, 11, 12, 13, 28, 29, 30, 42] hS (by kernel_rfl) (by kernel_rfl) (by kernel_rfl) hH (listed' := #[true, true, true, true, true, true, true, true, false, false, false, false, false]) (fuel := 5) (sy' := ⟨[(0, V (.slice a1 l_.length c1)), (5, V (.map (some r101))), (6, I x_109), (7, Pt 8 0), (8, I x_127), (11, V (.slice a2 picks.length c2)), (12, I ((picks.length : Nat) : Int)), (13, I x_109), (28, V (.slice a1 l_.length c1)), (29, I ((l_.length : Nat) : Int)), (30, I x_127), (42, B r144)], [(8, (52, [I ((gi picks x_109).Oper), I ((gi picks x_109).Result)])), (10, (54, [I ((gi l_ x_127).Prc), I ((gi l_ x_127).Kind), I ((gi l_ x_127).Start), I ((gi l_ x_127).End), I ((gi l_ x_127).Result)]))]⟩) (by kernel_rfl) (by rfl) ?_
                    intro a hS
                    rcases Bool.eq_false_or_eq_true r144 with hb | hb
                    · replace hS := hS.lit (t := 42) (by kernel_rfl) hb
                      replace hm := hm.1 hb
                      refine take T [8, 9] [8, 10] [0, 5, 6, 7, 11, 12, 13, 28, 29, 30, 42, 43, 44] hS (by kernel_rfl) (by kernel_rfl) (by kernel_rfl) hH (listed' := #[true, true, true, true, true, true, true, true, true, true, false, false, false]) (fuel := 3) (sy' := ⟨[(0, V (.slice a1 l_.length c1)), (5, V (.map (some r101))), (6, I x_109), (7, Pt 8 0), (11, V (.slice a2 picks.length c2)), (12, I ((picks.length : Nat) : Int)), (13, I x_109), (28, V (.slice a1 l_.length c1)), (29, I ((l_.length : Nat) : Int)), (30, I x_127), (42, B true), (43, V (.map (some r101))), (44, I x_127)], [(8, (52, [I ((gi picks x_109).Oper), I ((gi picks x_109).Result)])), (10, (54, [I ((gi l_ x_127).Prc), I ((gi l_ x_127).Kind), I ((gi l_ x_127).Start), I ((gi l_ x_127).End), I ((gi l_ x_127).Result)]))]⟩) (by kernel_rfl) (by rfl) ?_
                      intro a hS
                      refine only 10 (by kernel_rfl) (by rfl) (mlook kI tI false (zv := .int .i64 0) (z := 0) x_127 hS (by kernel_rfl) (by kernel_rfl) (by kernel_rfl) (by kernel_rfl) Try.underlying85 Try.underlying3 (by kernel_rfl) rfl h124 ?_)
                      intro v145 a hv hS
                      replace hv : tI.R _ _ [v145] _ := hv
                      cases hv
                      refine andH (Hold.of hS (bks := [8, 10]) (by kernel_rfl) hD) ?_
                      intro hH
                      refine take T [11, 12] [8, 10] [0, 5, 6, 7, 11, 12, 13, 28, 29, 30, 43, 44, 45, 46, 47] hS (by kernel_rfl) (by kernel_rfl) (by kernel_rfl) hH (listed' := #[true, true, true, true, true, true, true, true, true, true, true, true, true]) (fuel := 0) (sy' := ⟨[(0, V (.slice a1 l_.length c1)), (5, V (.map (some r101))), (6, I x_109), (7, Pt 8 0), (11, V (.slice a2 picks.length c2)), (12, I ((picks.length : Nat) : Int)), (13, I x_109), (28, V (.slice a1 l_.length c1)), (29, I ((l_.length : Nat) : Int)), (30, I x_127), (43, V (.map (some r101))), (44, I x_127), (45, I ((mget there_106 x_127).getD 0)), (46, B (((mget there_106 x_127).getD 0) == 0)), (47, B (((mget there_106 x_127).getD 0) == 0))], [(8, (52, [I ((gi picks x_109).Oper), I ((gi picks x_109).Result)])), (10, (54, [I ((gi l_ x_127).Prc), I ((gi l_ x_127).Kind), I ((gi l_ x_127).Start), I ((gi l_ x_127).End), I ((gi l_ x_127).Result)]))]⟩) (by kernel_rfl) (by rfl) ?_
                      intro a hS
                      refine drawnDone (by kernel_rfl) ?_
                      clear hD hH
                      replace hS := hS.sel [0, 5, 6, 7, 11, 12, 13, 28, 29, 30, 43, 44, 45, 46, 47] [8] (sy' := ⟨[(0, V (.slice a1 l_.length c1)), (5, V (.map (some r101))), (6, I x_109), (7, Pt 8 0), (11, V (.slice a2 picks.length c2)), (12, I ((picks.length : Nat) : Int)), (13, I x_109), (28, V (.slice a1 l_.length c1)), (29, I ((l_.length : Nat) : Int)), (30, I x_127), (43, V (.map (some r101))), (44, I x_127), (45, I ((mget there_106 x_127).getD 0)), (46, B (((mget there_106 x_127).getD 0) == 0)), (47, B (((mget there_106 x_127).getD 0) == 0))], [(8, (52, [I ((gi picks x_109).Oper), I ((gi picks x_109).Result)]))]⟩) (by kernel_rfl)
                      exact ⟨ρ, _, (((mget there_106 x_127).getD 0) == 0), hm, hS.sel [0, 5, 6, 7, 11, 12, 13, 28, 29, 30, 47] [8] (by kernel_rfl), hO, h123, h124, h125, h126⟩
                    · replace hS := hS.lit (t := 42) (by kernel_rfl) hb
                      replace hm := hm.2 hb
                      refine take T [8, 9, 10, 11, 12] [8, 10] [0, 5, 6, 7, 11, 12, 13, 28, 29, 30, 43, 44, 45, 46, 47] hS (by kernel_rfl) (by kernel_rfl) (by kernel_rfl) hH (listed' := #[true, true, true, true, true, true, true, true, true, true, true, true, true]) (fuel := 0) (sy' := ⟨[(0, V (.slice a1 l_.length c1)), (5, V (.map (some r101))), (6, I x_109), (7, Pt 8 0), (11, V (.slice a2 picks.length c2)), (12, I ((picks.length : Nat) : Int)), (13, I x_109), (28, V (.slice a1 l_.length c1)), (29, I ((l_.length : Nat) : Int)), (30, I x_127), (43, V undef), (44, V undef), (45, V undef), (46, V undef), (47, B false)], [(8, (52, [I ((gi picks x_109).Oper), I ((gi picks x_109).Result)])), (10, (54, [I ((gi l_ x_127).Prc), I ((gi l_ x_127).Kind), I ((gi l_ x_127).Start), I ((gi l_ x_127).End), I ((gi l_ x_127).Result)]))]⟩) (by kernel_rfl) (by rfl) ?_
                      intro a hS
                      refine drawnDone (by kernel_rfl) ?_
                      clear hD hH
                      replace hS := hS.sel [0, 5, 6, 7, 11, 12, 13, 28, 29, 30, 47] [8] (sy' := ⟨[(0, V (.slice a1 l_.length c1)), (5, V (.map (some r101))), (6, I x_109), (7, Pt 8 0), (11, V (.slice a2 picks.length c2)), (12, I ((picks.length : Nat) : Int)), (13, I x_109), (28, V (.slice a1 l_.length c1)), (29, I ((l_.length : Nat) : Int)), (30, I x_127), (47, B false)], [(8, (52, [I ((gi picks x_109).Oper), I ((gi picks x_109).Result)]))]⟩) (by kernel_rfl)
                      exact ⟨ρ, _, false, hm, hS.sel [0, 5, 6, 7, 11, 12, 13, 28, 29, 30, 47] [8] (by kernel_rfl), hO, h123, h124, h125, h126⟩
                  · rintro a w147 ⟨ρ, χ146, x_135, hm, hS, hO, h131, h132, h133, h134⟩
                    unfold VC28_J4 at hm
                    refine wcond hS (b := x_135) (by kernel_rfl) (fun hb => ?_) (fun hb => ?_)
                    · replace hm := hm.1 hb
                      refine regP T hS (sp := []) (ks := [4]) (bs := []) (sy' := ⟨[(4, I x_109)], []⟩) (by kernel_rfl) ?_
                      intro a hS
                      refine wret ?_
                      exact fin T hS hO (fun c => c) rfl (r := [.int .i64 x_109]) (by kernel_rfl) (fun χ' hM hC => ⟨x_109, hm, rfl⟩)
                    · replace hm := hm.2 hb
                      refine wskip ?_
                      refine region (endP T hS (sp := []) (ks := [0, 5, 6, 7, 11, 12, 13, 28, 29, 30]) (bs := [8]) (sy' := ⟨[(0, V (.slice a1 l_.length c1)), (5, V (.map (some r101))), (6, I x_109), (7, Pt 8 0), (11, V (.slice a2 picks.length c2)), (12, I ((picks.length : Nat) : Int)), (13, I x_109), (28, V (.slice a1 l_.length c1)), (29, I ((l_.length : Nat) : Int)), (30, I (IntKind.i64.wrap (x_127 + 1)))], [(8, (52, [I ((gi picks x_109).Oper), I ((gi picks x_109).Result)]))]⟩) (by kernel_rfl) ?_)
                      intro a hS
                      exact ⟨IntKind.i64.wrap (x_127 + 1), ⟨ρ, _, hm.1, hS.sel [0, 5, 6, 7, 11, 12, 13, 28, 29, 30] [8] (by kernel_rfl), hO, h131, h132, h133, h134⟩, hm.2⟩
                · replace hm := hm.2 hb
                  refine wexit (by rfl) ?_
                  exact ⟨ρ, _, hm, hS.sel [0, 5, 7, 11, 12, 13] [8] (by kernel_rfl), hO, h123, h124, h125⟩
            · rintro a w153 ⟨ρ, χ152, hm, hS, hO, h117, h118, h119⟩
              unfold VC28_J3 at hm
              refine region ?_
              refine opsP T hS 3 (sp := []) (ks := [0, 5, 11, 12, 13, 50, 52]) (bs := []) (sy' := ⟨[(0, V (.slice a1 l_.length c1)), (5, V (.map (some r101))), (11, V (.slice a2 picks.length c2)), (12, I ((picks.length : Nat) : Int)), (13, I x_109), (50, V (.map (some r101))), (52, I ((gi picks x_109).Oper))], []⟩) (by kernel_rfl) ?_
              intro a hS
              refine op1 (mlook kI tI false (zv := .int .i64 0) (z := 0) ((gi picks x_109).Oper) hS (by kernel_rfl) (by kernel_rfl) (by kernel_rfl) (by kernel_rfl) Try.underlying85 Try.underlying3 (by kernel_rfl) rfl h118 ?_)
              intro v120 a hv hS
              replace hv : tI.R _ _ [v120] _ := hv
              cases hv
              refine opsP T hS 1 (sp := []) (ks := [0, 5, 11, 12, 13, 50, 52, 54]) (bs := []) (sy' := ⟨[(0, V (.slice a1 l_.length c1)), (5, V (.map (some r101))), (11, V (.slice a2 picks.length c2)), (12, I ((picks.length : Nat) : Int)), (13, I x_109), (50, V (.map (some r101))), (52, I ((gi picks x_109).Oper)), (54, I (IntKind.i64.wrap (((mget there_106 ((gi picks x_109).Oper)).getD 0) + 1)))], []⟩) (by kernel_rfl) ?_
              intro a hS
              refine op1 (mset kI tI false (v := I (IntKind.i64.wrap (((mget there_106 ((gi picks x_109).Oper)).getD 0) + 1))) (u := IntKind.i64.wrap (((mget there_106 ((gi picks x_109).Oper)).getD 0) + 1)) ((gi picks x_109).Oper) hS (by kernel_rfl) (by kernel_rfl) (by kernel_rfl) (by kernel_rfl) Try.underlying85 Try.underlying3 (by kernel_rfl) h118 rfl ?_)
              intro a w121 hE h122 hS
              clear h118
              replace hO := hO.mv hE rfl rfl
              replace h117 := h117.mv hE rfl
              replace h119 := h119.mv hE rfl
              clear hE
              refine doneK ?_
              exact ⟨ρ, _, mput there_106 ((gi picks x_109).Oper) (IntKind.i64.wrap (((mget there_106 ((gi picks x_109).Oper)).getD 0) + 1)), hm, hS.sel [0, 5, 11, 12, 13] [] (by kernel_rfl), hO, h117, h122, h119⟩
        · rintro a w157 ⟨ρ, χ156, there_111, hm, hS, hO, h110, h112, h113⟩
          unfold VC28_J2 at hm
          refine region (endP T hS (sp := []) (ks := [0, 5, 11, 12, 13]) (bs := []) (sy' := ⟨[(0, V (.slice a1 l_.length c1)), (5, V (.map (some r101))), (11, V (.slice a2 picks.length c2)), (12, I ((picks.length : Nat) : Int)), (13, I (IntKind.i64.wrap (x_109 + 1)))], []⟩) (by kernel_rfl) ?_)
          intro a hS
          exact ⟨⟨there_111, IntKind.i64.wrap (x_109 + 1)⟩, ⟨ρ, _, hm.1, hS.sel [0, 5, 11, 12, 13] [] (by kernel_rfl), hO, h110, h112, h113⟩, hm.2⟩
      · replace hm := hm.2 hb
        refine wexit (by rfl) ?_
        exact ⟨ρ, _, hm, hS.sel [] [] (by kernel_rfl), hO⟩
  · rintro a w161 ⟨ρ, χ160, hm, hS, hO⟩
    unfold VC28_J1 at hm
    refine regP T hS (sp := []) (ks := [4]) (bs := []) (sy' := ⟨[(4, I (-1))], []⟩) (by kernel_rfl) ?_
    intro a hS
    refine wret ?_
    exact fin T hS hO (fun c => c) rfl (r := [.int .i64 (-1)]) (by kernel_rfl) (fun χ' hM hC => ⟨(-1), hm, rfl⟩)
theorem C28 (k53 : S53) (v : ∀ (l_ : List Api_Oper) (picks : List Api_Pick), VC28 l_ picks (fun r => r = witness_Order l_ picks)) : S28 := by
  intro w χ l_ picks a1 c1 a2 c2   h1 h2
  refine (W28 k53 w χ l_ picks a1 c1 a2 c2   _ (v l_ picks) h1 h2).mono ?_
  rintro _ _ _ _ ⟨r, rfl, h⟩
  exact h
def S73 : Prop := ∀ (w : World) (χ : Nat → Nat) (o_ : Api_Oper), Ret Try.prog 73 #[.agg #[.int .i64 o_.Prc, .int .i64 o_.Kind, .int .i64 o_.Start, .int .i64 o_.End, .int .i64 o_.Result]] xnone w χ (fun w χ' v => v = .bool (oper_ended o_))
theorem hb73 : hasBody Try.prog 73 = true := by kernel_rfl
/-- replevin/oper.ended -/
theorem W73 (w0 : World) (χ0 : Nat → Nat) (o_ : Api_Oper) (Q : Bool → Prop) (hm : VC73 o_ Q) :
    Ret Try.prog 73 #[.agg #[.int .i64 o_.Prc, .int .i64 o_.Kind, .int .i64 o_.Start, .int .i64 o_.End, .int .i64 o_.Result]] xnone w0 χ0 (fun w χ' v => ∃ r, Q r ∧ v = .bool r) := by
  unfold VC73 at hm
  refine enter Try.func73 rfl (vals := [.agg #[.int .i64 o_.Prc, .int .i64 o_.Kind, .int .i64 o_.Start, .int .i64 o_.End, .int .i64 o_.Result]]) (by kernel_rfl) ?_
  intro ρ a hS hO hM
  clear hM
  refine regM T hS (sp := []) (ks := [1]) (bs := [2]) (sy' := ⟨[(1, Pt 2 0)], [(2, (54, [I o_.Prc, I o_.Kind, I o_.Start, I o_.End, I o_.Result]))]⟩) (by kernel_rfl) ?_
  intro ρ a w101 χ102 hS hE hr
  replace hO := hO.mv hE rfl rfl
  clear hE hr
  refine wseq ?_
  refine regP T hS (sp := []) (ks := [1, 5]) (bs := [2]) (sy' := ⟨[(1, Pt 2 0), (5, B (o_.End == (-1)))], [(2, (54, [I o_.Prc, I o_.Kind, I o_.Start, I o_.End, I o_.Result]))]⟩) (by kernel_rfl) ?_
  intro a hS
  refine wcond hS (b := (o_.End == (-1))) (by kernel_rfl) (fun hb => ?_) (fun hb => ?_)
  · replace hm := hm.1 hb
    refine regP T hS (sp := []) (ks := [2]) (bs := []) (sy' := ⟨[(2, B (o_.Result == (-1)))], []⟩) (by kernel_rfl) ?_
    intro a hS
    refine wret ?_
    exact fin T hS hO (fun c => c) rfl (r := [.bool (o_.Result == (-1))]) (by kernel_rfl) (fun χ' hM hC => ⟨(o_.Result == (-1)), hm, rfl⟩)
  · replace hm := hm.2 hb
    refine wskip ?_
    refine regP T hS (sp := [14, 19, 24]) (ks := [2]) (bs := []) (sy' := ⟨[(2, B ((((decide (o_.End > o_.Start)) && (decide (o_.End ≤ 9999))) && (decide (o_.Result ≥ 0))) && (decide (o_.Result ≤ 1000000))))], []⟩) (by kernel_rfl) ?_
    intro a hS
    refine wret ?_
    exact fin T hS hO (fun c => c) rfl (r := [.bool ((((decide (o_.End > o_.Start)) && (decide (o_.End ≤ 9999))) && (decide (o_.Result ≥ 0))) && (decide (o_.Result ≤ 1000000)))]) (by kernel_rfl) (fun χ' hM hC => ⟨((((decide (o_.End > o_.Start)) && (decide (o_.End ≤ 9999))) && (decide (o_.Result ≥ 0))) && (decide (o_.Result ≤ 1000000))), hm, rfl⟩)
theorem C73 (v : ∀ (o_ : Api_Oper), VC73 o_ (fun r => r = oper_ended o_)) : S73 := by
  intro w χ o_    
  refine (W73 w χ o_    _ (v o_)).mono ?_
  rintro _ _ _ _ ⟨r, rfl, h⟩
  exact h
def S56 : Prop := ∀ (w : World) (χ : Nat → Nat) (o_ : Api_Oper), Ret Try.prog 56 #[.agg #[.int .i64 o_.Prc, .int .i64 o_.Kind, .int .i64 o_.Start, .int .i64 o_.End, .int .i64 o_.Result]] xnone w χ (fun w χ' v => v = .int .i64 (oper_alone o_))
theorem hb56 : hasBody Try.prog 56 = true := by kernel_rfl
/-- replevin/oper.alone -/
theorem W56 (k73 : S73) (w0 : World) (χ0 : Nat → Nat) (o_ : Api_Oper) (Q : Int → Prop) (hm : VC56 o_ Q) :
    Ret Try.prog 56 #[.agg #[.int .i64 o_.Prc, .int .i64 o_.Kind, .int .i64 o_.Start, .int .i64 o_.End, .int .i64 o_.Result]] xnone w0 χ0 (fun w χ' v => ∃ r, Q r ∧ v = .int .i64 r) := by
  unfold VC56 at hm
  refine enter Try.func56 rfl (vals := [.agg #[.int .i64 o_.Prc, .int .i64 o_.Kind, .int .i64 o_.Start, .int .i64 o_.End, .int .i64 o_.Result]]) (by kernel_rfl) ?_
  intro ρ a hS hO hM
  clear hM
  refine regM T hS (sp := []) (ks := [1]) (bs := [2]) (sy' := ⟨[(1, Pt 2 0)], [(2, (54, [I o_.Prc, I o_.Kind, I o_.Start, I o_.End, I o_.Result]))]⟩) (by kernel_rfl) ?_
  intro ρ a w105 χ106 hS hE hr
  replace hO := hO.mv hE rfl rfl
  clear hE hr
  refine wseq ?_
  refine wblock ?_
  refine regP T hS (sp := [7, 12, 17]) (ks := [1, 3]) (bs := [2]) (sy' := ⟨[(1, Pt 2 0), (3, B ((((decide (o_.Prc < 1)) || (decide (o_.Prc > 1000))) || (decide (o_.Start < 0))) || (decide (o_.Start > 9999))))], [(2, (54, [I o_.Prc, I o_.Kind, I o_.Start, I o_.End, I o_.Result]))]⟩) (by kernel_rfl) ?_
  intro a hS
  refine wcond hS (b := ((((decide (o_.Prc < 1)) || (decide (o_.Prc > 1000))) || (decide (o_.Start < 0))) || (decide (o_.Start > 9999)))) (by kernel_rfl) (fun hb => ?_) (fun hb => ?_)
  · replace hm := hm.1 hb
    refine regP T hS (sp := []) (ks := [2]) (bs := []) (sy' := ⟨[(2, I 2)], []⟩) (by kernel_rfl) ?_
    intro a hS
    refine wret ?_
    exact fin T hS hO (fun c => c) rfl (r := [.int .i64 2]) (by kernel_rfl) (fun χ' hM hC => ⟨2, hm, rfl⟩)
  · replace hm := hm.2 hb
    refine regP T hS (sp := [26]) (ks := [1, 22]) (bs := [2]) (sy' := ⟨[(1, Pt 2 0), (22, B ((decide (o_.Kind < 0)) || (decide (o_.Kind ≥ 64))))], [(2, (54, [I o_.Prc, I o_.Kind, I o_.Start, I o_.End, I o_.Result]))]⟩) (by kernel_rfl) ?_
    intro a hS
    refine wcond hS (b := ((decide (o_.Kind < 0)) || (decide (o_.Kind ≥ 64)))) (by kernel_rfl) (fun hb => ?_) (fun hb => ?_)
    · replace hm := hm.1 hb
      refine regP T hS (sp := []) (ks := [2]) (bs := []) (sy' := ⟨[(2, I 31)], []⟩) (by kernel_rfl) ?_
      intro a hS
      refine wret ?_
      exact fin T hS hO (fun c => c) rfl (r := [.int .i64 31]) (by kernel_rfl) (fun χ' hM hC => ⟨31, hm, rfl⟩)
    · replace hm := hm.2 hb
      refine regO ?_
      refine opsP T hS 1 (sp := []) (ks := [32]) (bs := []) (sy' := ⟨[(32, V (.agg #[.int .i64 o_.Prc, .int .i64 o_.Kind, .int .i64 o_.Start, .int .i64 o_.End, .int .i64 o_.Result]))], []⟩) (by kernel_rfl) ?_
      intro a hS
      refine op1 (call hS (by kernel_rfl) (by kernel_rfl) hb73 (by kernel_rfl) (fun _ _ => rfl) (k73 _ _ o_) ?_)
      intro v101 a w102 χ103 hE hp hS
      replace hO := hO.mv hE rfl rfl
      clear hE
      obtain ⟨r104, hr⟩ : ∃ r, oper_ended o_ = r := ⟨_, rfl⟩
      replace hm := hm r104 hr
      rw [hr] at hp
      clear hr
      subst hp
      refine endP T hS (sp := []) (ks := [31]) (bs := []) (sy' := ⟨[(31, B (!r104))], []⟩) (by kernel_rfl) ?_
      intro a hS
      refine wcond hS (b := (!r104)) (by kernel_rfl) (fun hb => ?_) (fun hb => ?_)
      · replace hm := hm.1 hb
        refine regP T hS (sp := []) (ks := [2]) (bs := []) (sy' := ⟨[(2, I 7)], []⟩) (by kernel_rfl) ?_
        intro a hS
        refine wret ?_
        exact fin T hS hO (fun c => c) rfl (r := [.int .i64 7]) (by kernel_rfl) (fun χ' hM hC => ⟨7, hm, rfl⟩)
      · replace hm := hm.2 hb
        refine wskip ?_
        refine regP T hS (sp := []) (ks := [2]) (bs := []) (sy' := ⟨[(2, I 0)], []⟩) (by kernel_rfl) ?_
        intro a hS
        refine wret ?_
        exact fin T hS hO (fun c => c) rfl (r := [.int .i64 0]) (by kernel_rfl) (fun χ' hM hC => ⟨0, hm, rfl⟩)
theorem C56 (k73 : S73) (v : ∀ (o_ : Api_Oper), VC56 o_ (fun r => r = oper_alone o_)) : S56 := by
  intro w χ o_    
  refine (W56 k73 w χ o_    _ (v o_)).mono ?_
  rintro _ _ _ _ ⟨r, rfl, h⟩
  exact h
end Go.Proofs.Ytnhdgebboafliaa
