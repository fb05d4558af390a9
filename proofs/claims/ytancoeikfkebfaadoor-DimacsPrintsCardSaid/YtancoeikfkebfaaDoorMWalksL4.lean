/- Walks: each function returns what its condition asks. Condition: the contracts of its callees, handed in. -/
import Derived.Test.YtancoeikfkebfaaDoorMWalksS
set_option linter.all false
namespace Go.Proofs.YtancoeikfkebfaaDoor
open Go Go.Sv
set_option maxHeartbeats 1000000
/-- replevin/replevinref01.Split -/
theorem W69 (w0 : World) (χ0 : Nat → Nat) (l_ : Int) (Q : Int × Bool → Prop) (hm : VC69 l_ Q) :
  Ret Tryd.prog 69 #[.int .i64 l_] xnone w0 χ0 (fun w χ' v => ∃ r, Q r ∧ v = .tuple #[.int .i64 r.1, .bool r.2]) := by
 unfold VC69 at hm
 refine enter Tryd.func69 rfl (vals := [.int .i64 l_]) kr ?_
 intro ρ a hS hO hM
 clear hM
 refine rP T hS ⟨[(0, I l_)], []⟩ fun a hS => ?_
 refine wseq ?_
 refine rP T hS ⟨[(0, I l_), (9, B ((decide (l_ > 0)) && (decide (l_ ≤ 100000))))], []⟩ (sp := [6]) fun a hS => ?_
 refine wcond hS (b := ((decide (l_ > 0)) && (decide (l_ ≤ 100000)))) kr (fun hb => ?_) (fun hb => ?_)
 ·replace hm := hm.1 hb
  refine rP T hS ⟨[(2, I l_), (3, B true)], []⟩ fun a hS => ?_
  refine wret ?_
  exact fin T hS hO (fun c => c) rfl (r := [.int .i64 l_, .bool true]) kr (fun χ' hM hC => ⟨(l_, true), hm, rfl⟩)
 ·replace hm := hm.2 hb
  refine wskip ?_
  refine wseq ?_
  refine rP T hS ⟨[(0, I l_), (16, B ((decide (l_ < 0)) && (decide (l_ ≥ (-100000)))))], []⟩ (sp := [13]) fun a hS => ?_
  refine wcond hS (b := ((decide (l_ < 0)) && (decide (l_ ≥ (-100000))))) kr (fun hb => ?_) (fun hb => ?_)
  ·replace hm := hm.1 hb
   refine rP T hS ⟨[(2, I (IntKind.i64.wrap (0 - l_))), (3, B false)], []⟩ fun a hS => ?_
   refine wret ?_
   exact fin T hS hO (fun c => c) rfl (r := [.int .i64 (IntKind.i64.wrap (0 - l_)), .bool false]) kr (fun χ' hM hC => ⟨(IntKind.i64.wrap (0 - l_), false), hm, rfl⟩)
  ·replace hm := hm.2 hb
   refine wskip ?_
   refine rP T hS ⟨[(2, I 0), (3, B false)], []⟩ fun a hS => ?_
   refine wret ?_
   exact fin T hS hO (fun c => c) rfl (r := [.int .i64 0, .bool false]) kr (fun χ' hM hC => ⟨(0, false), hm, rfl⟩)
theorem C69 (v : ∀ (l_ : Int), VC69 l_ (fun r => r = ref01_Split l_)) : S69 := by
 intro w χ l_    
 refine (W69 w χ l_    _ (v l_)).mono ?_
 rintro _ _ _ _ ⟨r, rfl, h⟩
 exact h
/-- replevin/replevinref01.Index -/
theorem W70 (k69 : S69) (w0 : World) (χ0 : Nat → Nat) (l_ : Int) (Q : Int → Prop) (hm : VC70 l_ Q) :
  Ret Tryd.prog 70 #[.int .i64 l_] xnone w0 χ0 (fun w χ' v => ∃ r, Q r ∧ v = .int .i64 r) := by
 unfold VC70 at hm
 refine enter Tryd.func70 rfl (vals := [.int .i64 l_]) kr ?_
 intro ρ a hS hO hM
 clear hM
 refine rP T hS ⟨[(0, I l_)], []⟩ fun a hS => ?_
 refine regO ?_
 refine oP T hS 1 ⟨[(6, I l_)], []⟩ fun a hS => ?_
 refine op1 (call hS kr kr hb69 kr (fun _ _ => rfl) (k69 _ _ l_) ?_)
 intro v101 a w102 χ103 hE hp hS
 replace hO := hO.mv hE rfl rfl
 clear hE
 obtain ⟨r104, hr⟩ : ∃ r, ref01_Split l_ = r := ⟨_, rfl⟩
 replace hm := hm r104 hr
 rw [hr] at hp
 clear hr
 subst hp
 refine eP T hS ⟨[(3, I r104.1), (4, B r104.2)], []⟩ fun a hS => ?_
 refine wseq ?_
 refine rP T hS ⟨[(3, I r104.1), (4, B r104.2), (11, B (r104.1 == 0))], []⟩ fun a hS => ?_
 refine wcond hS (b := (r104.1 == 0)) kr (fun hb => ?_) (fun hb => ?_)
 ·replace hm := hm.1 hb
  refine rP T hS ⟨[(2, I (-1))], []⟩ fun a hS => ?_
  refine wret ?_
  exact fin T hS hO (fun c => c) rfl (r := [.int .i64 (-1)]) kr (fun χ' hM hC => ⟨(-1), hm, rfl⟩)
 ·replace hm := hm.2 hb
  refine wskip ?_
  refine wseq ?_
  refine rP T hS ⟨[(3, I r104.1), (12, B r104.2)], []⟩ fun a hS => ?_
  refine wcond hS (b := r104.2) kr (fun hb => ?_) (fun hb => ?_)
  ·replace hm := hm.1 hb
   refine rP T hS ⟨[(2, I (IntKind.i64.wrap ((IntKind.i64.wrap (2 * r104.1)) - 2)))], []⟩ fun a hS => ?_
   refine wret ?_
   exact fin T hS hO (fun c => c) rfl (r := [.int .i64 (IntKind.i64.wrap ((IntKind.i64.wrap (2 * r104.1)) - 2))]) kr (fun χ' hM hC => ⟨(IntKind.i64.wrap ((IntKind.i64.wrap (2 * r104.1)) - 2)), hm, rfl⟩)
  ·replace hm := hm.2 hb
   refine wskip ?_
   refine rP T hS ⟨[(2, I (IntKind.i64.wrap ((IntKind.i64.wrap (2 * r104.1)) - 1)))], []⟩ fun a hS => ?_
   refine wret ?_
   exact fin T hS hO (fun c => c) rfl (r := [.int .i64 (IntKind.i64.wrap ((IntKind.i64.wrap (2 * r104.1)) - 1))]) kr (fun χ' hM hC => ⟨(IntKind.i64.wrap ((IntKind.i64.wrap (2 * r104.1)) - 1)), hm, rfl⟩)
theorem C70 (k69 : S69) (v : ∀ (l_ : Int), VC70 l_ (fun r => r = ref01_Index l_)) : S70 := by
 intro w χ l_    
 refine (W70 k69 w χ l_    _ (v l_)).mono ?_
 rintro _ _ _ _ ⟨r, rfl, h⟩
 exact h
/-- replevin/replevinref01.Join -/
theorem W71 (w0 : World) (χ0 : Nat → Nat) (v_ : Int) (truth : Bool) (Q : Int → Prop) (hm : VC71 v_ truth Q) :
  Ret Tryd.prog 71 #[.int .i64 v_, .bool truth] xnone w0 χ0 (fun w χ' v => ∃ r, Q r ∧ v = .int .i64 r) := by
 unfold VC71 at hm
 refine enter Tryd.func71 rfl (vals := [.int .i64 v_, .bool truth]) kr ?_
 intro ρ a hS hO hM
 clear hM
 refine rP T hS ⟨[(0, I v_), (1, B truth)], []⟩ fun a hS => ?_
 refine wseq ?_
 refine rP T hS ⟨[(0, I v_), (1, B truth), (10, B ((decide (v_ < 1)) || (decide (v_ > 100000))))], []⟩ (sp := [7]) fun a hS => ?_
 refine wcond hS (b := ((decide (v_ < 1)) || (decide (v_ > 100000)))) kr (fun hb => ?_) (fun hb => ?_)
 ·replace hm := hm.1 hb
  refine rP T hS ⟨[(4, I 0)], []⟩ fun a hS => ?_
  refine wret ?_
  exact fin T hS hO (fun c => c) rfl (r := [.int .i64 0]) kr (fun χ' hM hC => ⟨0, hm, rfl⟩)
 ·replace hm := hm.2 hb
  refine wskip ?_
  refine wseq ?_
  refine rP T hS ⟨[(0, I v_), (11, B truth)], []⟩ fun a hS => ?_
  refine wcond hS (b := truth) kr (fun hb => ?_) (fun hb => ?_)
  ·replace hm := hm.1 hb
   refine rP T hS ⟨[(4, I v_)], []⟩ fun a hS => ?_
   refine wret ?_
   exact fin T hS hO (fun c => c) rfl (r := [.int .i64 v_]) kr (fun χ' hM hC => ⟨v_, hm, rfl⟩)
  ·replace hm := hm.2 hb
   refine wskip ?_
   refine rP T hS ⟨[(4, I (IntKind.i64.wrap (0 - v_)))], []⟩ fun a hS => ?_
   refine wret ?_
   exact fin T hS hO (fun c => c) rfl (r := [.int .i64 (IntKind.i64.wrap (0 - v_))]) kr (fun χ' hM hC => ⟨(IntKind.i64.wrap (0 - v_)), hm, rfl⟩)
theorem C71 (v : ∀ (v_ : Int) (truth : Bool), VC71 v_ truth (fun r => r = ref01_Join v_ truth)) : S71 := by
 intro w χ v_ truth    
 refine (W71 w χ v_ truth    _ (v v_ truth)).mono ?_
 rintro _ _ _ _ ⟨r, rfl, h⟩
 exact h
/-- replevin/replevinref01.Neg -/
theorem W60 (k69 : S69) (k71 : S71) (w0 : World) (χ0 : Nat → Nat) (l_ : Int) (Q : Int → Prop) (hm : VC60 l_ Q) :
  Ret Tryd.prog 60 #[.int .i64 l_] xnone w0 χ0 (fun w χ' v => ∃ r, Q r ∧ v = .int .i64 r) := by
 unfold VC60 at hm
 refine enter Tryd.func60 rfl (vals := [.int .i64 l_]) kr ?_
 intro ρ a hS hO hM
 clear hM
 refine rP T hS ⟨[(0, I l_)], []⟩ fun a hS => ?_
 refine regO ?_
 refine oP T hS 1 ⟨[(6, I l_)], []⟩ fun a hS => ?_
 refine op1 (call hS kr kr hb69 kr (fun _ _ => rfl) (k69 _ _ l_) ?_)
 intro v101 a w102 χ103 hE hp hS
 replace hO := hO.mv hE rfl rfl
 clear hE
 obtain ⟨r104, hr⟩ : ∃ r, ref01_Split l_ = r := ⟨_, rfl⟩
 replace hm := hm r104 hr
 rw [hr] at hp
 clear hr
 subst hp
 refine eP T hS ⟨[(3, I r104.1), (4, B r104.2)], []⟩ fun a hS => ?_
 refine regO ?_
 refine oP T hS 3 ⟨[(10, I r104.1), (12, B (!r104.2))], []⟩ fun a hS => ?_
 refine op1 (call hS kr kr hb71 kr (fun _ _ => rfl) (k71 _ _ r104.1 (!r104.2)) ?_)
 intro v105 a w106 χ107 hE hp hS
 replace hO := hO.mv hE rfl rfl
 clear hE
 obtain ⟨r108, hr⟩ : ∃ r, ref01_Join r104.1 (!r104.2) = r := ⟨_, rfl⟩
 replace hm := hm r108 hr
 rw [hr] at hp
 clear hr
 subst hp
 refine eP T hS ⟨[(2, I r108)], []⟩ fun a hS => ?_
 refine wret ?_
 exact fin T hS hO (fun c => c) rfl (r := [.int .i64 r108]) kr (fun χ' hM hC => ⟨r108, hm, rfl⟩)
theorem C60 (k69 : S69) (k71 : S71) (v : ∀ (l_ : Int), VC60 l_ (fun r => r = ref01_Neg l_)) : S60 := by
 intro w χ l_    
 refine (W60 k69 k71 w χ l_    _ (v l_)).mono ?_
 rintro _ _ _ _ ⟨r, rfl, h⟩
 exact h
/-- replevin/replevinref01.Check -/
theorem W58 (k69 : S69) (w0 : World) (χ0 : Nat → Nat) (l_ : Int) (vars : Int) (Q : Int → Prop) (hm : VC58 l_ vars Q) :
  Ret Tryd.prog 58 #[.int .i64 l_, .int .i64 vars] xnone w0 χ0 (fun w χ' v => ∃ r, Q r ∧ v = .int .i64 r) := by
 unfold VC58 at hm
 refine enter Tryd.func58 rfl (vals := [.int .i64 l_, .int .i64 vars]) kr ?_
 intro ρ a hS hO hM
 clear hM
 refine rP T hS ⟨[(0, I l_), (1, I vars)], []⟩ fun a hS => ?_
 refine wseq ?_
 refine rP T hS ⟨[(0, I l_), (1, I vars), (12, B ((decide (vars < 0)) || (decide (vars > 100000))))], []⟩ (sp := [9]) fun a hS => ?_
 refine wcond hS (b := ((decide (vars < 0)) || (decide (vars > 100000)))) kr (fun hb => ?_) (fun hb => ?_)
 ·replace hm := hm.1 hb
  refine rP T hS ⟨[(4, I 2)], []⟩ fun a hS => ?_
  refine wret ?_
  exact fin T hS hO (fun c => c) rfl (r := [.int .i64 2]) kr (fun χ' hM hC => ⟨2, hm, rfl⟩)
 ·replace hm := hm.2 hb
  refine wskip ?_
  refine regO ?_
  refine oP T hS 1 ⟨[(1, I vars), (14, I l_)], []⟩ fun a hS => ?_
  refine op1 (call hS kr kr hb69 kr (fun _ _ => rfl) (k69 _ _ l_) ?_)
  intro v101 a w102 χ103 hE hp hS
  replace hO := hO.mv hE rfl rfl
  clear hE
  obtain ⟨r104, hr⟩ : ∃ r, ref01_Split l_ = r := ⟨_, rfl⟩
  replace hm := hm r104 hr
  rw [hr] at hp
  clear hr
  subst hp
  refine eP T hS ⟨[(1, I vars), (5, I r104.1)], []⟩ fun a hS => ?_
  refine wseq ?_
  refine rP T hS ⟨[(24, B ((r104.1 == 0) || (decide (r104.1 > vars))))], []⟩ (sp := [20]) fun a hS => ?_
  refine wcond hS (b := ((r104.1 == 0) || (decide (r104.1 > vars)))) kr (fun hb => ?_) (fun hb => ?_)
  ·replace hm := hm.1 hb
   refine rP T hS ⟨[(4, I 10)], []⟩ fun a hS => ?_
   refine wret ?_
   exact fin T hS hO (fun c => c) rfl (r := [.int .i64 10]) kr (fun χ' hM hC => ⟨10, hm, rfl⟩)
  ·replace hm := hm.2 hb
   refine wskip ?_
   refine rP T hS ⟨[(4, I 0)], []⟩ fun a hS => ?_
   refine wret ?_
   exact fin T hS hO (fun c => c) rfl (r := [.int .i64 0]) kr (fun χ' hM hC => ⟨0, hm, rfl⟩)
theorem C58 (k69 : S69) (v : ∀ (l_ : Int) (vars : Int), VC58 l_ vars (fun r => r = ref01_Check l_ vars)) : S58 := by
 intro w χ l_ vars    
 refine (W58 k69 w χ l_ vars    _ (v l_ vars)).mono ?_
 rintro _ _ _ _ ⟨r, rfl, h⟩
 exact h
/-- replevin/replevinref02.Has -/
theorem W59 (k26 : S26) (k70 : S70) (w0 : World) (χ0 : Nat → Nat) (c_ : List Int) (l_ : Int) (a1 : Option Addr) (c1 : Nat) (Q : Bool → Prop) (hm : VC59 c_ l_ Q) (h1 : RS tI w0 χ0 a1 c_ c1) :
  Ret Tryd.prog 59 #[.slice a1 c_.length c1, .int .i64 l_] xnone w0 χ0 (fun w χ' v => ∃ r, Q r ∧ v = .bool r) := by
 unfold VC59 at hm
 replace hm := hm (h1.sm kr)
 refine enter Tryd.func59 rfl (vals := [.slice a1 c_.length c1, .int .i64 l_]) kr ?_
 intro ρ a hS hO hM
 replace h1 := h1.m0 hM
 clear hM
 refine rP T hS ⟨[(0, Sl a1 c_ c1), (1, I l_)], []⟩ fun a hS => ?_
 refine regO ?_
 refine oP T hS 1 ⟨[(0, Sl a1 c_ c1), (1, I l_), (5, I l_)], []⟩ fun a hS => ?_
 refine op1 (call hS kr kr hb70 kr (fun _ _ => rfl) (k70 _ _ l_) ?_)
 intro v101 a w102 χ103 hE hp hS
 replace hO := hO.mv hE rfl rfl
 replace h1 := h1.mv hE rfl
 clear hE
 obtain ⟨r104, hr⟩ : ∃ r, ref01_Index l_ = r := ⟨_, rfl⟩
 replace hm := hm r104 hr
 rw [hr] at hp
 clear hr
 subst hp
 refine oP T hS 2 ⟨[(0, Sl a1 c_ c1), (1, I l_), (8, B (decide (r104 ≥ 0)))], []⟩ fun a hS => ?_
 rcases Bool.eq_false_or_eq_true (decide (r104 ≥ 0)) with hb | hb
 ·replace hS := hS.lit (t := 8) kr hb
  replace hm := hm.1 hb
  refine oP T hS 2 ⟨[(8, B true), (9, Sl a1 c_ c1), (10, I l_)], []⟩ fun a hS => ?_
  refine op1 (call hS kr kr hb26 kr (fun _ _ => rfl) (k26 _ _ c_ l_ a1 c1 h1) ?_)
  intro v105 a w106 χ107 hE hp hS
  replace hO := hO.mv hE rfl rfl
  replace h1 := h1.mv hE rfl
  clear hE
  obtain ⟨r108, hr⟩ : ∃ r, ref01_Has c_ l_ = r := ⟨_, rfl⟩
  replace hm := hm r108 hr
  rw [hr] at hp
  clear hr
  subst hp
  refine eP T hS ⟨[(4, B r108)], []⟩ fun a hS => ?_
  refine wret ?_
  exact fin T hS hO (fun c => c) rfl (r := [.bool r108]) kr (fun χ' hM hC => ⟨r108, hm, rfl⟩)
 ·replace hS := hS.lit (t := 8) kr hb
  replace hm := hm.2 hb
  refine eP T hS ⟨[(4, B false)], []⟩ fun a hS => ?_
  refine wret ?_
  exact fin T hS hO (fun c => c) rfl (r := [.bool false]) kr (fun χ' hM hC => ⟨false, hm, rfl⟩)
theorem C59 (k26 : S26) (k70 : S70) (v : ∀ (c_ : List Int) (l_ : Int), VC59 c_ l_ (fun r => r = ref02_Has c_ l_)) : S59 := by
 intro w χ c_ l_ a1 c1   h1
 refine (W59 k26 k70 w χ c_ l_ a1 c1   _ (v c_ l_) h1).mono ?_
 rintro _ _ _ _ ⟨r, rfl, h⟩
 exact h
/-- replevin/replevinref02.Check -/
theorem W45 (k26 : S26) (k58 : S58) (w0 : World) (χ0 : Nat → Nat) (c_ : List Int) (vars : Int) (a1 : Option Addr) (c1 : Nat) (Q : Int → Prop) (hm : VC45 c_ vars Q) (h1 : RS tI w0 χ0 a1 c_ c1) :
  Ret Tryd.prog 45 #[.slice a1 c_.length c1, .int .i64 vars] xnone w0 χ0 (fun w χ' v => ∃ r, Q r ∧ v = .int .i64 r) := by
 unfold VC45 at hm
 replace hm := hm (h1.sm kr)
 refine enter Tryd.func45 rfl (vals := [.slice a1 c_.length c1, .int .i64 vars]) kr ?_
 intro ρ a hS hO hM
 replace h1 := h1.m0 hM
 clear hM
 refine rP T hS ⟨[(0, Sl a1 c_ c1), (1, I vars)], []⟩ fun a hS => ?_
 refine wseq ?_
 refine rP T hS ⟨[(0, Sl a1 c_ c1), (1, I vars), (12, B ((decide (vars < 0)) || (decide (vars > 100000))))], []⟩ (sp := [9]) fun a hS => ?_
 refine wcond hS (b := ((decide (vars < 0)) || (decide (vars > 100000)))) kr (fun hb => ?_) (fun hb => ?_)
 ·replace hm := hm.1 hb
  refine rP T hS ⟨[(4, I 2)], []⟩ fun a hS => ?_
  refine wret ?_
  exact fin T hS hO (fun c => c) rfl (r := [.int .i64 2]) kr (fun χ' hM hC => ⟨2, hm, rfl⟩)
 ·replace hm := hm.2 hb
  refine wskip ?_
  refine wseq ?_
  refine rP T hS ⟨[(0, Sl a1 c_ c1), (1, I vars), (15, B (decide (((c_.length : Nat) : Int) > 1000)))], []⟩ fun a hS => ?_
  refine wcond hS (b := decide (((c_.length : Nat) : Int) > 1000)) kr (fun hb => ?_) (fun hb => ?_)
  ·replace hm := hm.1 hb
   refine rP T hS ⟨[(4, I 3)], []⟩ fun a hS => ?_
   refine wret ?_
   exact fin T hS hO (fun c => c) rfl (r := [.int .i64 3]) kr (fun χ' hM hC => ⟨3, hm, rfl⟩)
  ·replace hm := hm.2 hb
   refine wskip ?_
   refine wcut (fun a w => ∃ (ρ : Nat → Nat) (χ : Nat → Nat), VC45_J1 c_ Q ∧ St Tryd.f45.ntmps ⟨[(0, Sl a1 c_ c1)], []⟩ ρ a w χ ∧ Old w0 χ0 w χ ∧ RS tI w χ a1 c_ c1) ?_ ?_
   ·refine rP T hS ⟨[(0, Sl a1 c_ c1), (1, I vars), (5, I 0)], []⟩ fun a hS => ?_
    refine wblock ?_
    obtain ⟨I2, μ2, hm0, hm⟩ := hm
    refine wloop (σ := Int) (fun s a w => ∃ (ρ : Nat → Nat) (χ : Nat → Nat), I2 s ∧ St Tryd.f45.ntmps ⟨[(0, Sl a1 c_ c1), (1, I vars), (5, I s)], []⟩ ρ a w χ ∧ Old w0 χ0 w χ ∧ RS tI w χ a1 c_ c1) (fun s => μ2 s) (0) ?_ ?_
    ·exact ⟨ρ, _, hm0, hS.sl _, hO, h1⟩
    ·rintro i_121 a w130 ⟨ρ, χ129, hI, hS, hO, h120⟩
     replace hm := hm i_121 hI
     clear hI hm0
     refine wseq ?_
     refine rP T hS ⟨[(0, Sl a1 c_ c1), (1, I vars), (5, I i_121), (19, B (decide (i_121 < ((c_.length : Nat) : Int))))], []⟩ fun a hS => ?_
     refine wcond hS (b := decide (i_121 < ((c_.length : Nat) : Int))) kr (fun hb => ?_) (fun hb => ?_)
     ·replace hm := hm.1 hb
      refine wskip ?_
      refine wseq ?_
      refine wblock ?_
      refine regO ?_
      refine oP T hS 2 ⟨[(0, Sl a1 c_ c1), (1, I vars), (5, I i_121), (22, Sl a1 c_ c1), (23, I i_121)], []⟩ fun a hS => ?_
      obtain ⟨hq, hm⟩ := hm
      refine op1 (index (e := 3) (k := .i64) T hS kr kr kr kr h120 kr kr hq.1 hq.2 ?_)
      intro A122 a h123 hS
      clear hq
      refine op1 (load1 T hS kr kr kr h123 rfl kr ?_)
      intro v124 a hv hS
      cases hv
      refine oP T hS 1 ⟨[(0, Sl a1 c_ c1), (1, I vars), (5, I i_121), (25, I (gi c_ i_121)), (26, I vars)], []⟩ fun a hS => ?_
      refine op1 (call hS kr kr hb58 kr (fun _ _ => rfl) (k58 _ _ (gi c_ i_121) vars) ?_)
      intro v125 a w126 χ127 hE hp hS
      replace hO := hO.mv hE rfl rfl
      replace h120 := h120.mv hE rfl
      clear hE
      obtain ⟨r128, hr⟩ : ∃ r, ref01_Check (gi c_ i_121) vars = r := ⟨_, rfl⟩
      replace hm := hm r128 hr
      rw [hr] at hp
      clear hr
      subst hp
      refine eP T hS ⟨[(0, Sl a1 c_ c1), (1, I vars), (5, I i_121), (28, B (r128 != 0))], []⟩ fun a hS => ?_
      refine wcond hS (b := (r128 != 0)) kr (fun hb => ?_) (fun hb => ?_)
      ·replace hm := hm.1 hb
       refine rP T hS ⟨[(4, I 10)], []⟩ fun a hS => ?_
       refine wret ?_
       exact fin T hS hO (fun c => c) rfl (r := [.int .i64 10]) kr (fun χ' hM hC => ⟨10, hm, rfl⟩)
      ·replace hm := hm.2 hb
       refine wskip ?_
       refine region (eP T hS ⟨[(0, Sl a1 c_ c1), (1, I vars), (5, I (IntKind.i64.wrap (i_121 + 1)))], []⟩ fun a hS => ?_)
       exact ⟨IntKind.i64.wrap (i_121 + 1), ⟨ρ, _, hm.1, hS.sl _, hO, h120⟩, hm.2⟩
     ·replace hm := hm.2 hb
      refine wexit (by rfl) ?_
      exact ⟨ρ, _, hm, hS.sl _, hO, h120⟩
   ·rintro a w132 ⟨ρ, χ131, hm, hS, hO, h101⟩
    unfold VC45_J1 at hm
    refine wcut (fun a w => ∃ (ρ : Nat → Nat) (χ : Nat → Nat), VC45_J2 Q ∧ St Tryd.f45.ntmps ⟨[], []⟩ ρ a w χ ∧ Old w0 χ0 w χ) ?_ ?_
    ·refine rP T hS ⟨[(0, Sl a1 c_ c1), (6, I 0)], []⟩ fun a hS => ?_
     refine wblock ?_
     obtain ⟨I1, μ1, hm0, hm⟩ := hm
     refine wloop (σ := Int) (fun s a w => ∃ (ρ : Nat → Nat) (χ : Nat → Nat), I1 s ∧ St Tryd.f45.ntmps ⟨[(0, Sl a1 c_ c1), (6, I s)], []⟩ ρ a w χ ∧ Old w0 χ0 w χ ∧ RS tI w χ a1 c_ c1) (fun s => μ1 s) (0) ?_ ?_
     ·exact ⟨ρ, _, hm0, hS.sl _, hO, h101⟩
     ·rintro i_103 a w117 ⟨ρ, χ116, hI, hS, hO, h102⟩
      replace hm := hm i_103 hI
      clear hI hm0
      refine wseq ?_
      refine rP T hS ⟨[(0, Sl a1 c_ c1), (6, I i_103), (32, B (decide (i_103 < ((c_.length : Nat) : Int))))], []⟩ fun a hS => ?_
      refine wcond hS (b := decide (i_103 < ((c_.length : Nat) : Int))) kr (fun hb => ?_) (fun hb => ?_)
      ·replace hm := hm.1 hb
       refine wskip ?_
       refine wseq ?_
       refine wblock ?_
       refine drawnSX [] mixed hS ?_
       intro w104 χ105 hS hE hD hH
       replace hO := hO.mv hE rfl rfl
       replace h102 := h102.mv hE rfl
       clear hE
       refine tk T [0, 1, 3, 4] [] hS hH #[true, true, false, true, true, false, false, false] 4 ⟨[(0, Sl a1 c_ c1), (6, I i_103), (35, Sl a1 c_ c1), (36, I i_103), (38, Sl a1 c_ c1), (39, I i_103)], []⟩ fun a hS => ?_
       obtain ⟨hq, hm⟩ := hm
       refine dslice0 (E := 3) (kh := .i64) T 2 hS kr kr kr (by rfl) kr hH kr kr h102 kr kr hq.1 hq.2 ?_
       intro a106 c107 a h108 hS
       clear hq
       obtain ⟨hq, hm⟩ := hm
       refine dindex (e := 3) (k := .i64) T 5 hS kr kr kr (by rfl) kr hH kr kr h102 kr kr hq.1 hq.2 ?_
       intro A109 a h110 hS
       clear hq
       have h110b := h110.here
       refine dload1 T 6 hS kr kr kr (by rfl) kr hH kr h110 h110b rfl kr ?_
       intro v111 a hv hS
       cases hv
       refine only 7 kr (by rfl) (call hS kr kr hb26 kr (fun _ _ => rfl) (k26 _ _ (c_.take i_103.toNat) (gi c_ i_103) a106 c107 h108) ?_)
       intro v112 a w113 χ114 hE hp hS
       replace hO := hO.mv hE rfl rfl
       replace hD := hD.ev hE rfl
       replace h102 := h102.mv hE rfl
       replace h108 := h108.mv hE rfl
       replace h110 := h110.mv hE rfl
       clear hE
       obtain ⟨r115, hr⟩ : ∃ r, ref01_Has (c_.take i_103.toNat) (gi c_ i_103) = r := ⟨_, rfl⟩
       replace hm := hm r115 hr
       rw [hr] at hp
       clear hr
       subst hp
       refine andH (Hold.of hS (bks := []) kr hD) ?_
       intro hH
       refine drawnDone kr ?_
       clear hD hH
       replace hS := hS.sl ⟨[(0, Sl a1 c_ c1), (6, I i_103), (42, B r115)], []⟩
       refine wcond hS (b := r115) kr (fun hb => ?_) (fun hb => ?_)
       ·replace hm := hm.1 hb
        refine rP T hS ⟨[(4, I 21)], []⟩ fun a hS => ?_
        refine wret ?_
        exact fin T hS hO (fun c => c) rfl (r := [.int .i64 21]) kr (fun χ' hM hC => ⟨21, hm, rfl⟩)
       ·replace hm := hm.2 hb
        refine wskip ?_
        refine region (eP T hS ⟨[(0, Sl a1 c_ c1), (6, I (IntKind.i64.wrap (i_103 + 1)))], []⟩ fun a hS => ?_)
        exact ⟨IntKind.i64.wrap (i_103 + 1), ⟨ρ, _, hm.1, hS.sl _, hO, h102⟩, hm.2⟩
      ·replace hm := hm.2 hb
       refine wexit (by rfl) ?_
       exact ⟨ρ, _, hm, hS.sl _, hO⟩
    ·rintro a w119 ⟨ρ, χ118, hm, hS, hO⟩
     unfold VC45_J2 at hm
     refine rP T hS ⟨[(4, I 0)], []⟩ fun a hS => ?_
     refine wret ?_
     exact fin T hS hO (fun c => c) rfl (r := [.int .i64 0]) kr (fun χ' hM hC => ⟨0, hm, rfl⟩)
theorem C45 (k26 : S26) (k58 : S58) (v : ∀ (c_ : List Int) (vars : Int), VC45 c_ vars (fun r => r = ref02_Check c_ vars)) : S45 := by
 intro w χ c_ vars a1 c1   h1
 refine (W45 k26 k58 w χ c_ vars a1 c1   _ (v c_ vars) h1).mono ?_
 rintro _ _ _ _ ⟨r, rfl, h⟩
 exact h
/-- replevin/replevinref02.Taut -/
theorem W46 (k59 : S59) (k60 : S60) (w0 : World) (χ0 : Nat → Nat) (c_ : List Int) (a1 : Option Addr) (c1 : Nat) (Q : Bool → Prop) (hm : VC46 c_ Q) (h1 : RS tI w0 χ0 a1 c_ c1) :
  Ret Tryd.prog 46 #[.slice a1 c_.length c1] xnone w0 χ0 (fun w χ' v => ∃ r, Q r ∧ v = .bool r) := by
 unfold VC46 at hm
 replace hm := hm (h1.sm kr)
 refine enter Tryd.func46 rfl (vals := [.slice a1 c_.length c1]) kr ?_
 intro ρ a hS hO hM
 replace h1 := h1.m0 hM
 clear hM
 refine rP T hS ⟨[(0, Sl a1 c_ c1)], []⟩ fun a hS => ?_
 refine wcut (fun a w => ∃ (ρ : Nat → Nat) (χ : Nat → Nat), VC46_J1 Q ∧ St Tryd.f46.ntmps ⟨[], []⟩ ρ a w χ ∧ Old w0 χ0 w χ) ?_ ?_
 ·refine rP T hS ⟨[(0, Sl a1 c_ c1), (3, I 0)], []⟩ fun a hS => ?_
  refine wblock ?_
  obtain ⟨I1, μ1, hm0, hm⟩ := hm
  refine wloop (σ := Int) (fun s a w => ∃ (ρ : Nat → Nat) (χ : Nat → Nat), I1 s ∧ St Tryd.f46.ntmps ⟨[(0, Sl a1 c_ c1), (3, I s)], []⟩ ρ a w χ ∧ Old w0 χ0 w χ ∧ RS tI w χ a1 c_ c1) (fun s => μ1 s) (0) ?_ ?_
  ·exact ⟨ρ, _, hm0, hS.sl _, hO, h1⟩
  ·rintro i_102 a w126 ⟨ρ, χ125, hI, hS, hO, h101⟩
   replace hm := hm i_102 hI
   clear hI hm0
   refine wseq ?_
   refine rP T hS ⟨[(0, Sl a1 c_ c1), (3, I i_102), (7, B (decide (i_102 < ((c_.length : Nat) : Int))))], []⟩ fun a hS => ?_
   refine wcond hS (b := decide (i_102 < ((c_.length : Nat) : Int))) kr (fun hb => ?_) (fun hb => ?_)
   ·replace hm := hm.1 hb
    refine wskip ?_
    refine wseq ?_
    refine wblock ?_
    refine wcut (fun a w => ∃ (ρ : Nat → Nat) (χ : Nat → Nat) (x_104 : Bool), VC46_J2 Q I1 μ1 i_102 x_104 ∧ St Tryd.f46.ntmps ⟨[(0, Sl a1 c_ c1), (3, I i_102), (24, B x_104)], []⟩ ρ a w χ ∧ Old w0 χ0 w χ ∧ RS tI w χ a1 c_ c1) ?_ ?_
    ·refine region ?_
     refine oP T hS 3 ⟨[(0, Sl a1 c_ c1), (3, I i_102), (10, Sl a1 c_ c1), (11, Sl a1 c_ c1), (12, I i_102)], []⟩ fun a hS => ?_
     obtain ⟨hq, hm⟩ := hm
     refine op1 (index (e := 3) (k := .i64) T hS kr kr kr kr h101 kr kr hq.1 hq.2 ?_)
     intro A105 a h106 hS
     clear hq
     refine op1 (load1 T hS kr kr kr h106 rfl kr ?_)
     intro v107 a hv hS
     cases hv
     refine op1 (call hS kr kr hb59 kr (fun _ _ => rfl) (k59 _ _ c_ (gi c_ i_102) a1 c1 h101) ?_)
     intro v108 a w109 χ110 hE hp hS
     replace hO := hO.mv hE rfl rfl
     replace h101 := h101.mv hE rfl
     replace h106 := h106.mv hE rfl
     clear hE
     obtain ⟨r111, hr⟩ : ∃ r, ref02_Has c_ (gi c_ i_102) = r := ⟨_, rfl⟩
     replace hm := hm r111 hr
     rw [hr] at hp
     clear hr
     subst hp
     refine oP T hS 1 ⟨[(0, Sl a1 c_ c1), (3, I i_102), (16, B r111)], []⟩ fun a hS => ?_
     rcases Bool.eq_false_or_eq_true r111 with hb | hb
     ·replace hS := hS.lit (t := 16) kr hb
      replace hm := hm.1 hb
      refine oP T hS 3 ⟨[(0, Sl a1 c_ c1), (3, I i_102), (16, B true), (17, Sl a1 c_ c1), (18, Sl a1 c_ c1), (19, I i_102)], []⟩ fun a hS => ?_
      obtain ⟨hq, hm⟩ := hm
      refine op1 (index (e := 3) (k := .i64) T hS kr kr kr kr h101 kr kr hq.1 hq.2 ?_)
      intro A112 a h113 hS
      clear hq
      refine op1 (load1 T hS kr kr kr h113 rfl kr ?_)
      intro v114 a hv hS
      cases hv
      refine op1 (call hS kr kr hb60 kr (fun _ _ => rfl) (k60 _ _ (gi c_ i_102)) ?_)
      intro v115 a w116 χ117 hE hp hS
      replace hO := hO.mv hE rfl rfl
      replace h101 := h101.mv hE rfl
      replace h113 := h113.mv hE rfl
      clear hE
      obtain ⟨r118, hr⟩ : ∃ r, ref01_Neg (gi c_ i_102) = r := ⟨_, rfl⟩
      replace hm := hm r118 hr
      rw [hr] at hp
      clear hr
      subst hp
      refine op1 (call hS kr kr hb59 kr (fun _ _ => rfl) (k59 _ _ c_ r118 a1 c1 h101) ?_)
      intro v119 a w120 χ121 hE hp hS
      replace hO := hO.mv hE rfl rfl
      replace h101 := h101.mv hE rfl
      replace h113 := h113.mv hE rfl
      clear hE
      obtain ⟨r122, hr⟩ : ∃ r, ref02_Has c_ r118 = r := ⟨_, rfl⟩
      replace hm := hm r122 hr
      rw [hr] at hp
      clear hr
      subst hp
      refine eP T hS ⟨[(0, Sl a1 c_ c1), (3, I i_102), (17, Sl a1 c_ c1), (18, Sl a1 c_ c1), (19, I i_102), (20, V (.pointer (some A112))), (21, I (gi c_ i_102)), (22, I r118), (23, B r122), (24, B r122)], []⟩ fun a hS => ?_
      exact ⟨ρ, _, r122, hm, hS.sl _, hO, h101⟩
     ·replace hS := hS.lit (t := 16) kr hb
      replace hm := hm.2 hb
      refine eP T hS ⟨[(0, Sl a1 c_ c1), (3, I i_102), (24, B false)], []⟩ fun a hS => ?_
      exact ⟨ρ, _, false, hm, hS.sl _, hO, h101⟩
    ·rintro a w124 ⟨ρ, χ123, x_104, hm, hS, hO, h103⟩
     unfold VC46_J2 at hm
     refine wcond hS (b := x_104) kr (fun hb => ?_) (fun hb => ?_)
     ·replace hm := hm.1 hb
      refine rP T hS ⟨[(2, B true)], []⟩ fun a hS => ?_
      refine wret ?_
      exact fin T hS hO (fun c => c) rfl (r := [.bool true]) kr (fun χ' hM hC => ⟨true, hm, rfl⟩)
     ·replace hm := hm.2 hb
      refine wskip ?_
      refine region (eP T hS ⟨[(0, Sl a1 c_ c1), (3, I (IntKind.i64.wrap (i_102 + 1)))], []⟩ fun a hS => ?_)
      exact ⟨IntKind.i64.wrap (i_102 + 1), ⟨ρ, _, hm.1, hS.sl _, hO, h103⟩, hm.2⟩
   ·replace hm := hm.2 hb
    refine wexit (by rfl) ?_
    exact ⟨ρ, _, hm, hS.sl _, hO⟩
 ·rintro a w128 ⟨ρ, χ127, hm, hS, hO⟩
  unfold VC46_J1 at hm
  refine rP T hS ⟨[(2, B false)], []⟩ fun a hS => ?_
  refine wret ?_
  exact fin T hS hO (fun c => c) rfl (r := [.bool false]) kr (fun χ' hM hC => ⟨false, hm, rfl⟩)
theorem C46 (k59 : S59) (k60 : S60) (v : ∀ (c_ : List Int), VC46 c_ (fun r => r = ref02_Taut c_)) : S46 := by
 intro w χ c_ a1 c1   h1
 refine (W46 k59 k60 w χ c_ a1 c1   _ (v c_) h1).mono ?_
 rintro _ _ _ _ ⟨r, rfl, h⟩
 exact h
/-- replevin/replevinref04.Check -/
theorem W29 (k45 : S45) (k46 : S46) (w0 : World) (χ0 : Nat → Nat) (f_ : Api_Formula) (a1 : Option Addr) (c1 : Nat) (Q : Int × Int → Prop) (hm : VC29 f_ Q) (h1 : RS (tSlice tI) w0 χ0 a1 f_.Clauses c1) :
  Ret Tryd.prog 29 #[.agg #[.int .i64 f_.Vars, .slice a1 f_.Clauses.length c1]] xnone w0 χ0 (fun w χ' v => ∃ r, Q r ∧ v = .tuple #[.int .i64 r.1, .int .i64 r.2]) := by
 unfold VC29 at hm
 replace hm := hm (h1.sm kr)
 refine enter Tryd.func29 rfl (vals := [.agg #[.int .i64 f_.Vars, .slice a1 f_.Clauses.length c1]]) kr ?_
 intro ρ a hS hO hM
 replace h1 := h1.m0 hM
 clear hM
 refine rM T hS ⟨[(1, Pt 2 0)], [(2, (25, [I f_.Vars, Sl a1 f_.Clauses c1]))]⟩ fun ρ a w130 χ131 hS hE hr => ?_
 replace hO := hO.mv hE rfl rfl
 replace h1 := h1.mv hE rfl
 clear hE hr
 refine wseq ?_
 refine rP T hS ⟨[(1, Pt 2 0), (13, B ((decide (f_.Vars < 0)) || (decide (f_.Vars > 100000))))], [(2, (25, [I f_.Vars, Sl a1 f_.Clauses c1]))]⟩ (sp := [9]) fun a hS => ?_
 refine wcond hS (b := ((decide (f_.Vars < 0)) || (decide (f_.Vars > 100000)))) kr (fun hb => ?_) (fun hb => ?_)
 ·replace hm := hm.1 hb
  refine rP T hS ⟨[(2, I 0), (3, I 2)], []⟩ fun a hS => ?_
  refine wret ?_
  exact fin T hS hO (fun c => c) rfl (r := [.int .i64 0, .int .i64 2]) kr (fun χ' hM hC => ⟨(0, 2), hm, rfl⟩)
 ·replace hm := hm.2 hb
  refine wskip ?_
  refine wseq ?_
  refine rP T hS ⟨[(1, Pt 2 0), (17, B (decide (((f_.Clauses.length : Nat) : Int) > 1000000)))], [(2, (25, [I f_.Vars, Sl a1 f_.Clauses c1]))]⟩ fun a hS => ?_
  refine wcond hS (b := decide (((f_.Clauses.length : Nat) : Int) > 1000000)) kr (fun hb => ?_) (fun hb => ?_)
  ·replace hm := hm.1 hb
   refine rP T hS ⟨[(2, I 0), (3, I 3)], []⟩ fun a hS => ?_
   refine wret ?_
   exact fin T hS hO (fun c => c) rfl (r := [.int .i64 0, .int .i64 3]) kr (fun χ' hM hC => ⟨(0, 3), hm, rfl⟩)
  ·replace hm := hm.2 hb
   refine wskip ?_
   refine wcut (fun a w => ∃ (ρ : Nat → Nat) (χ : Nat → Nat), VC29_J1 f_ Q ∧ St Tryd.f29.ntmps ⟨[(1, Pt 2 0)], [(2, (25, [I f_.Vars, Sl a1 f_.Clauses c1]))]⟩ ρ a w χ ∧ Old w0 χ0 w χ ∧ RS (tSlice tI) w χ a1 f_.Clauses c1) ?_ ?_
   ·refine rP T hS ⟨[(1, Pt 2 0), (4, I 0)], [(2, (25, [I f_.Vars, Sl a1 f_.Clauses c1]))]⟩ fun a hS => ?_
    refine wblock ?_
    obtain ⟨I1, μ1, hm0, hm⟩ := hm
    refine wloop (σ := Int) (fun s a w => ∃ (ρ : Nat → Nat) (χ : Nat → Nat), I1 s ∧ St Tryd.f29.ntmps ⟨[(1, Pt 2 0), (4, I s)], [(2, (25, [I f_.Vars, Sl a1 f_.Clauses c1]))]⟩ ρ a w χ ∧ Old w0 χ0 w χ ∧ RS (tSlice tI) w χ a1 f_.Clauses c1) (fun s => μ1 s) (0) ?_ ?_
    ·exact ⟨ρ, _, hm0, hS.sl _, hO, h1⟩
    ·rintro i_102 a w127 ⟨ρ, χ126, hI, hS, hO, h103⟩
     replace hm := hm i_102 hI
     clear hI hm0
     refine wseq ?_
     refine rP T hS ⟨[(1, Pt 2 0), (4, I i_102), (22, B (decide (i_102 < ((f_.Clauses.length : Nat) : Int))))], [(2, (25, [I f_.Vars, Sl a1 f_.Clauses c1]))]⟩ fun a hS => ?_
     refine wcond hS (b := decide (i_102 < ((f_.Clauses.length : Nat) : Int))) kr (fun hb => ?_) (fun hb => ?_)
     ·replace hm := hm.1 hb
      refine wskip ?_
      refine wseq ?_
      refine wblock ?_
      refine drawnSX [2] mixed hS ?_
      intro w104 χ105 hS hE hD hH
      replace hO := hO.mv hE rfl rfl
      replace h103 := h103.mv hE rfl
      clear hE
      refine tk T [0, 2, 5, 1, 6] [2] hS hH #[true, true, true, false, false, true, true, false, false] 4 ⟨[(1, Pt 2 0), (4, I i_102), (26, Sl a1 f_.Clauses c1), (27, I i_102), (31, I f_.Vars)], [(2, (25, [I f_.Vars, Sl a1 f_.Clauses c1]))]⟩ fun a hS => ?_
      obtain ⟨hq, hm⟩ := hm
      refine dindex (e := 49) (k := .i64) T 3 hS kr kr kr (by rfl) kr hH kr kr h103 kr kr hq.1 hq.2 ?_
      intro A106 a h107 hS
      clear hq
      have h107b := h107.here
      refine dload1 T 4 hS kr kr kr (by rfl) kr hH kr h107 h107b rfl kr ?_
      intro v108 a hv hS
      obtain ⟨a109, c110, hv, h111⟩ := hv
      cases hv
      replace hm := hm (h111.sm kr)
      refine only 7 kr (by rfl) (call hS kr kr hb45 kr (fun _ _ => rfl) (k45 _ _ (gi f_.Clauses i_102) f_.Vars a109 c110 h111) ?_)
      intro v112 a w113 χ114 hE hp hS
      replace hO := hO.mv hE rfl rfl
      replace hD := hD.ev hE rfl
      replace h103 := h103.mv hE rfl
      replace h107 := h107.mv hE rfl
      replace h111 := h111.mv hE rfl
      clear hE
      obtain ⟨r115, hr⟩ : ∃ r, ref02_Check (gi f_.Clauses i_102) f_.Vars = r := ⟨_, rfl⟩
      replace hm := hm r115 hr
      rw [hr] at hp
      clear hr
      subst hp
      replace hS := hS.sl ⟨[(1, Pt 2 0), (4, I i_102), (26, Sl a1 f_.Clauses c1), (27, I i_102), (31, I f_.Vars), (28, V (.pointer (some A106))), (29, Sl a109 (gi f_.Clauses i_102) c110), (32, I r115)], [(2, (25, [I f_.Vars, Sl a1 f_.Clauses c1]))]⟩
      refine andH (Hold.of hS (bks := [2]) kr hD) ?_
      intro hH
      refine tk T [8] [2] hS hH #[true, true, true, true, true, true, true, true, true] 0 ⟨[(1, Pt 2 0), (4, I i_102), (5, I r115)], [(2, (25, [I f_.Vars, Sl a1 f_.Clauses c1]))]⟩ fun a hS => ?_
      refine drawnDone kr ?_
      clear hD hH
      replace hS := hS.sl ⟨[(1, Pt 2 0), (4, I i_102), (5, I r115)], [(2, (25, [I f_.Vars, Sl a1 f_.Clauses c1]))]⟩
      refine wseq ?_
      refine rP T hS ⟨[(1, Pt 2 0), (4, I i_102), (5, I r115), (34, B (r115 != 0))], [(2, (25, [I f_.Vars, Sl a1 f_.Clauses c1]))]⟩ fun a hS => ?_
      refine wcond hS (b := (r115 != 0)) kr (fun hb => ?_) (fun hb => ?_)
      ·replace hm := hm.1 hb
       refine rP T hS ⟨[(2, I i_102), (3, I r115)], []⟩ fun a hS => ?_
       refine wret ?_
       exact fin T hS hO (fun c => c) rfl (r := [.int .i64 i_102, .int .i64 r115]) kr (fun χ' hM hC => ⟨(i_102, r115), hm, rfl⟩)
      ·replace hm := hm.2 hb
       refine wskip ?_
       refine regO ?_
       refine oP T hS 3 ⟨[(1, Pt 2 0), (4, I i_102), (38, Sl a1 f_.Clauses c1), (39, I i_102)], [(2, (25, [I f_.Vars, Sl a1 f_.Clauses c1]))]⟩ fun a hS => ?_
       obtain ⟨hq, hm⟩ := hm
       refine op1 (index (e := 49) (k := .i64) T hS kr kr kr kr h103 kr kr hq.1 hq.2 ?_)
       intro A116 a h117 hS
       clear hq
       refine op1 (load1 T hS kr kr kr h117 rfl kr ?_)
       intro v118 a hv hS
       obtain ⟨a119, c120, hv, h121⟩ := hv
       cases hv
       replace hm := hm (h121.sm kr)
       refine op1 (call hS kr kr hb46 kr (fun _ _ => rfl) (k46 _ _ (gi f_.Clauses i_102) a119 c120 h121) ?_)
       intro v122 a w123 χ124 hE hp hS
       replace hO := hO.mv hE rfl rfl
       replace h103 := h103.mv hE rfl
       replace h117 := h117.mv hE rfl
       replace h121 := h121.mv hE rfl
       clear hE
       obtain ⟨r125, hr⟩ : ∃ r, ref02_Taut (gi f_.Clauses i_102) = r := ⟨_, rfl⟩
       replace hm := hm r125 hr
       rw [hr] at hp
       clear hr
       subst hp
       refine doneK ?_
       refine wcond hS (b := r125) kr (fun hb => ?_) (fun hb => ?_)
       ·replace hm := hm.1 hb
        refine rP T hS ⟨[(2, I i_102), (3, I 11)], []⟩ fun a hS => ?_
        refine wret ?_
        exact fin T hS hO (fun c => c) rfl (r := [.int .i64 i_102, .int .i64 11]) kr (fun χ' hM hC => ⟨(i_102, 11), hm, rfl⟩)
       ·replace hm := hm.2 hb
        refine wskip ?_
        refine region (eP T hS ⟨[(1, Pt 2 0), (4, I (IntKind.i64.wrap (i_102 + 1)))], [(2, (25, [I f_.Vars, Sl a1 f_.Clauses c1]))]⟩ fun a hS => ?_)
        exact ⟨IntKind.i64.wrap (i_102 + 1), ⟨ρ, _, hm.1, hS.sl _, hO, h103⟩, hm.2⟩
     ·replace hm := hm.2 hb
      refine wexit (by rfl) ?_
      exact ⟨ρ, _, hm, hS.sl _, hO, h103⟩
   ·rintro a w129 ⟨ρ, χ128, hm, hS, hO, h101⟩
    unfold VC29_J1 at hm
    refine rP T hS ⟨[(2, I ((f_.Clauses.length : Nat) : Int)), (3, I 0)], []⟩ fun a hS => ?_
    refine wret ?_
    exact fin T hS hO (fun c => c) rfl (r := [.int .i64 ((f_.Clauses.length : Nat) : Int), .int .i64 0]) kr (fun χ' hM hC => ⟨(((f_.Clauses.length : Nat) : Int), 0), hm, rfl⟩)
theorem C29 (k45 : S45) (k46 : S46) (v : ∀ (f_ : Api_Formula), VC29 f_ (fun r => r = ref04_Check f_)) : S29 := by
 intro w χ f_ a1 c1   h1
 refine (W29 k45 k46 w χ f_ a1 c1   _ (v f_) h1).mono ?_
 rintro _ _ _ _ ⟨r, rfl, h⟩
 exact h
/-- replevin/replevinref06.Head -/
theorem W15 (k30 : S30) (w0 : World) (χ0 : Nat → Nat) (vars : Int) (clauses : Int) (Q : (List UInt8) → Prop) (hm : VC15 vars clauses Q) :
  Ret Tryd.prog 15 #[.int .i64 vars, .int .i64 clauses] xnone w0 χ0 (fun w χ' v => ∃ r, Q r ∧ v = .string (bs r)) := by
 unfold VC15 at hm
 refine enter Tryd.func15 rfl (vals := [.int .i64 vars, .int .i64 clauses]) kr ?_
 intro ρ a hS hO hM
 clear hM
 refine rP T hS ⟨[(0, I vars), (1, I clauses)], []⟩ fun a hS => ?_
 refine regO ?_
 refine oP T hS 1 ⟨[(1, I clauses), (5, I vars)], []⟩ fun a hS => ?_
 obtain ⟨hq, hm⟩ := hm
 refine op1 (call hS kr kr hb30 kr (fun _ _ => rfl) (k30 _ _ vars hq) ?_)
 intro v101 a w102 χ103 hE hp hS
 clear hq
 replace hO := hO.mv hE rfl rfl
 clear hE
 obtain ⟨r104, hr⟩ : ∃ r, ref05_Digits vars = r := ⟨_, rfl⟩
 replace hm := hm r104 hr
 rw [hr] at hp
 clear hr
 subst hp
 obtain ⟨hq, hm⟩ := hm
 refine op1 (sadd (p := ([112, 32, 99, 110, 102, 32] : List UInt8)) (q := r104) hS kr kr kr kr hq ?_)
 intro a hS
 clear hq
 obtain ⟨hq, hm⟩ := hm
 refine op1 (sadd (p := (([112, 32, 99, 110, 102, 32] : List UInt8) ++ r104)) (q := ([32] : List UInt8)) hS kr kr kr kr hq ?_)
 intro a hS
 clear hq
 refine oP T hS 1 ⟨[(8, Z ((([112, 32, 99, 110, 102, 32] : List UInt8) ++ r104) ++ ([32] : List UInt8))), (9, I clauses)], []⟩ fun a hS => ?_
 obtain ⟨hq, hm⟩ := hm
 refine op1 (call hS kr kr hb30 kr (fun _ _ => rfl) (k30 _ _ clauses hq) ?_)
 intro v105 a w106 χ107 hE hp hS
 clear hq
 replace hO := hO.mv hE rfl rfl
 clear hE
 obtain ⟨r108, hr⟩ : ∃ r, ref05_Digits clauses = r := ⟨_, rfl⟩
 replace hm := hm r108 hr
 rw [hr] at hp
 clear hr
 subst hp
 obtain ⟨hq, hm⟩ := hm
 refine op1 (sadd (p := ((([112, 32, 99, 110, 102, 32] : List UInt8) ++ r104) ++ ([32] : List UInt8))) (q := r108) hS kr kr kr kr hq ?_)
 intro a hS
 clear hq
 obtain ⟨hq, hm⟩ := hm
 refine op1 (sadd (p := (((([112, 32, 99, 110, 102, 32] : List UInt8) ++ r104) ++ ([32] : List UInt8)) ++ r108)) (q := ([10] : List UInt8)) hS kr kr kr kr hq ?_)
 intro a hS
 clear hq
 refine eP T hS ⟨[(4, Z ((((([112, 32, 99, 110, 102, 32] : List UInt8) ++ r104) ++ ([32] : List UInt8)) ++ r108) ++ ([10] : List UInt8)))], []⟩ fun a hS => ?_
 refine wret ?_
 exact fin T hS hO (fun c => c) rfl (r := [.string (bs ((((([112, 32, 99, 110, 102, 32] : List UInt8) ++ r104) ++ ([32] : List UInt8)) ++ r108) ++ ([10] : List UInt8)))]) kr (fun χ' hM hC => ⟨((((([112, 32, 99, 110, 102, 32] : List UInt8) ++ r104) ++ ([32] : List UInt8)) ++ r108) ++ ([10] : List UInt8)), hm, rfl⟩)
theorem C15 (k30 : S30) (v : ∀ (vars : Int) (clauses : Int), preHd vars clauses → VC15 vars clauses (fun r => r = ref06_Head vars clauses)) : S15 := by
 intro w χ vars clauses    hp 
 refine (W15 k30 w χ vars clauses    _ (v vars clauses hp)).mono ?_
 rintro _ _ _ _ ⟨r, rfl, h⟩
 exact h
/-- replevin/replevinref06.Print -/
theorem W13 (k15 : S15) (k29 : S29) (k30 : S30) (w0 : World) (χ0 : Nat → Nat) (f_ : Api_Formula) (a1 : Option Addr) (c1 : Nat) (Q : (List UInt8) × Int → Prop) (hm : VC13 f_ Q) (h1 : RS (tSlice tI) w0 χ0 a1 f_.Clauses c1) :
  Ret Tryd.prog 13 #[.agg #[.int .i64 f_.Vars, .slice a1 f_.Clauses.length c1]] xnone w0 χ0 (fun w χ' v => ∃ r, Q r ∧ v = .tuple #[.string (bs r.1), .int .i64 r.2]) := by
 unfold VC13 at hm
 replace hm := hm (h1.sm kr)
 refine enter Tryd.func13 rfl (vals := [.agg #[.int .i64 f_.Vars, .slice a1 f_.Clauses.length c1]]) kr ?_
 intro ρ a hS hO hM
 replace h1 := h1.m0 hM
 clear hM
 refine rM T hS ⟨[(1, Pt 2 0)], [(2, (25, [I f_.Vars, Sl a1 f_.Clauses c1]))]⟩ fun ρ a w145 χ146 hS hE hr => ?_
 replace hO := hO.mv hE rfl rfl
 replace h1 := h1.mv hE rfl
 clear hE hr
 refine regO ?_
 refine oP T hS 1 ⟨[(1, Pt 2 0), (10, V (.agg #[.int .i64 f_.Vars, .slice a1 f_.Clauses.length c1]))], [(2, (25, [I f_.Vars, Sl a1 f_.Clauses c1]))]⟩ fun a hS => ?_
 refine op1 (call hS kr kr hb29 kr (fun _ _ => rfl) (k29 _ _ f_ a1 c1 h1) ?_)
 intro v101 a w102 χ103 hE hp hS
 replace hO := hO.mv hE rfl rfl
 replace h1 := h1.mv hE rfl
 clear hE
 obtain ⟨r104, hr⟩ : ∃ r, ref04_Check f_ = r := ⟨_, rfl⟩
 replace hm := hm r104 hr
 rw [hr] at hp
 clear hr
 subst hp
 refine eP T hS ⟨[(1, Pt 2 0), (5, I r104.2)], [(2, (25, [I f_.Vars, Sl a1 f_.Clauses c1]))]⟩ fun a hS => ?_
 refine wseq ?_
 refine rP T hS ⟨[(1, Pt 2 0), (5, I r104.2), (15, B (r104.2 != 0))], [(2, (25, [I f_.Vars, Sl a1 f_.Clauses c1]))]⟩ fun a hS => ?_
 refine wcond hS (b := (r104.2 != 0)) kr (fun hb => ?_) (fun hb => ?_)
 ·replace hm := hm.1 hb
  refine rP T hS ⟨[(2, Z ([] : List UInt8)), (3, I r104.2)], []⟩ fun a hS => ?_
  refine wret ?_
  exact fin T hS hO (fun c => c) rfl (r := [.string (bs ([] : List UInt8)), .int .i64 r104.2]) kr (fun χ' hM hC => ⟨(([] : List UInt8), r104.2), hm, rfl⟩)
 ·replace hm := hm.2 hb
  refine wskip ?_
  refine regO ?_
  refine oP T hS 5 ⟨[(1, Pt 2 0), (18, I f_.Vars), (21, I ((f_.Clauses.length : Nat) : Int))], [(2, (25, [I f_.Vars, Sl a1 f_.Clauses c1]))]⟩ fun a hS => ?_
  obtain ⟨hq, hm⟩ := hm
  refine op1 (call hS kr kr hb15 kr (fun _ _ => rfl) (k15 _ _ f_.Vars ((f_.Clauses.length : Nat) : Int) hq) ?_)
  intro v105 a w106 χ107 hE hp hS
  clear hq
  replace hO := hO.mv hE rfl rfl
  replace h1 := h1.mv hE rfl
  clear hE
  obtain ⟨r108, hr⟩ : ∃ r, ref06_Head f_.Vars ((f_.Clauses.length : Nat) : Int) = r := ⟨_, rfl⟩
  replace hm := hm r108 hr
  rw [hr] at hp
  clear hr
  subst hp
  refine eP T hS ⟨[(1, Pt 2 0), (6, Z r108)], [(2, (25, [I f_.Vars, Sl a1 f_.Clauses c1]))]⟩ fun a hS => ?_
  refine wcut (fun a w => ∃ (ρ : Nat → Nat) (χ : Nat → Nat) (out_109 : List UInt8), VC13_J1 Q out_109 ∧ St Tryd.f13.ntmps ⟨[(6, Z out_109)], []⟩ ρ a w χ ∧ Old w0 χ0 w χ) ?_ ?_
  ·refine rP T hS ⟨[(1, Pt 2 0), (6, Z r108), (7, I 0)], [(2, (25, [I f_.Vars, Sl a1 f_.Clauses c1]))]⟩ fun a hS => ?_
   refine wblock ?_
   obtain ⟨I1, μ1, hm0, hm⟩ := hm
   refine wloop (σ := (List UInt8) × Int) (fun s a w => ∃ (ρ : Nat → Nat) (χ : Nat → Nat), I1 s.1 s.2 ∧ St Tryd.f13.ntmps ⟨[(1, Pt 2 0), (6, Z s.1), (7, I s.2)], [(2, (25, [I f_.Vars, Sl a1 f_.Clauses c1]))]⟩ ρ a w χ ∧ Old w0 χ0 w χ ∧ RS (tSlice tI) w χ a1 f_.Clauses c1) (fun s => μ1 s.1 s.2) (⟨r108, 0⟩) ?_ ?_
   ·exact ⟨ρ, _, hm0, hS.sl _, hO, h1⟩
   ·rintro ⟨out_110, i_111⟩ a w142 ⟨ρ, χ141, hI, hS, hO, h112⟩
    replace hm := hm out_110 i_111 hI
    clear hI hm0
    refine wseq ?_
    refine rP T hS ⟨[(1, Pt 2 0), (6, Z out_110), (7, I i_111), (27, B (decide (i_111 < ((f_.Clauses.length : Nat) : Int))))], [(2, (25, [I f_.Vars, Sl a1 f_.Clauses c1]))]⟩ fun a hS => ?_
    refine wcond hS (b := decide (i_111 < ((f_.Clauses.length : Nat) : Int))) kr (fun hb => ?_) (fun hb => ?_)
    ·replace hm := hm.1 hb
     refine wskip ?_
     refine wseq ?_
     refine wblock ?_
     refine wcut (fun a w => ∃ (ρ : Nat → Nat) (χ : Nat → Nat) (out_113 : List UInt8), VC13_J2 I1 μ1 out_110 i_111 out_113 ∧ St Tryd.f13.ntmps ⟨[(1, Pt 2 0), (6, Z out_113), (7, I i_111)], [(2, (25, [I f_.Vars, Sl a1 f_.Clauses c1]))]⟩ ρ a w χ ∧ Old w0 χ0 w χ ∧ RS (tSlice tI) w χ a1 f_.Clauses c1) ?_ ?_
     ·refine rP T hS ⟨[(1, Pt 2 0), (6, Z out_110), (7, I i_111), (8, I 0)], [(2, (25, [I f_.Vars, Sl a1 f_.Clauses c1]))]⟩ fun a hS => ?_
      refine wblock ?_
      obtain ⟨I2, μ2, hm0, hm⟩ := hm
      refine wloop (σ := (List UInt8) × Int) (fun s a w => ∃ (ρ : Nat → Nat) (χ : Nat → Nat), I2 s.1 s.2 ∧ St Tryd.f13.ntmps ⟨[(1, Pt 2 0), (6, Z s.1), (7, I i_111), (8, I s.2)], [(2, (25, [I f_.Vars, Sl a1 f_.Clauses c1]))]⟩ ρ a w χ ∧ Old w0 χ0 w χ ∧ RS (tSlice tI) w χ a1 f_.Clauses c1) (fun s => μ2 s.1 s.2) (⟨out_110, 0⟩) ?_ ?_
      ·exact ⟨ρ, _, hm0, hS.sl _, hO, h112⟩
      ·rintro ⟨out_115, k_116⟩ a w138 ⟨ρ, χ137, hI, hS, hO, h117⟩
       replace hm := hm out_115 k_116 hI
       clear hI hm0
       refine wseq ?_
       refine regO ?_
       refine oP T hS 4 ⟨[(1, Pt 2 0), (6, Z out_115), (7, I i_111), (8, I k_116), (30, I k_116), (32, Sl a1 f_.Clauses c1), (33, I i_111)], [(2, (25, [I f_.Vars, Sl a1 f_.Clauses c1]))]⟩ fun a hS => ?_
       obtain ⟨hq, hm⟩ := hm
       refine op1 (index (e := 49) (k := .i64) T hS kr kr kr kr h117 kr kr hq.1 hq.2 ?_)
       intro A118 a h119 hS
       clear hq
       refine op1 (load1 T hS kr kr kr h119 rfl kr ?_)
       intro v120 a hv hS
       obtain ⟨a121, c122, hv, h123⟩ := hv
       cases hv
       replace hm := hm (h123.sm kr)
       refine eP T hS ⟨[(1, Pt 2 0), (6, Z out_115), (7, I i_111), (8, I k_116), (37, B (decide (k_116 < (((gi f_.Clauses i_111).length : Nat) : Int))))], [(2, (25, [I f_.Vars, Sl a1 f_.Clauses c1]))]⟩ fun a hS => ?_
       refine wcond hS (b := decide (k_116 < (((gi f_.Clauses i_111).length : Nat) : Int))) kr (fun hb => ?_) (fun hb => ?_)
       ·replace hm := hm.1 hb
        refine wskip ?_
        refine wseq ?_
        refine wblock ?_
        refine region ?_
        refine oP T hS 4 ⟨[(1, Pt 2 0), (6, Z out_115), (7, I i_111), (8, I k_116), (40, Z out_115), (42, Sl a1 f_.Clauses c1), (43, I i_111)], [(2, (25, [I f_.Vars, Sl a1 f_.Clauses c1]))]⟩ fun a hS => ?_
        obtain ⟨hq, hm⟩ := hm
        refine op1 (index (e := 49) (k := .i64) T hS kr kr kr kr h117 kr kr hq.1 hq.2 ?_)
        intro A124 a h125 hS
        clear hq
        refine op1 (load1 T hS kr kr kr h125 rfl kr ?_)
        intro v126 a hv hS
        obtain ⟨a127, c128, hv, h129⟩ := hv
        cases hv
        replace hm := hm (h129.sm kr)
        refine oP T hS 1 ⟨[(1, Pt 2 0), (6, Z out_115), (7, I i_111), (8, I k_116), (40, Z out_115), (45, Sl a127 (gi f_.Clauses i_111) c128), (46, I k_116)], [(2, (25, [I f_.Vars, Sl a1 f_.Clauses c1]))]⟩ fun a hS => ?_
        obtain ⟨hq, hm⟩ := hm
        refine op1 (index (e := 3) (k := .i64) T hS kr kr kr kr h129 kr kr hq.1 hq.2 ?_)
        intro A130 a h131 hS
        clear hq
        refine op1 (load1 T hS kr kr kr h131 rfl kr ?_)
        intro v132 a hv hS
        cases hv
        obtain ⟨hq, hm⟩ := hm
        refine op1 (call hS kr kr hb30 kr (fun _ _ => rfl) (k30 _ _ (gi (gi f_.Clauses i_111) k_116) hq) ?_)
        intro v133 a w134 χ135 hE hp hS
        clear hq
        replace hO := hO.mv hE rfl rfl
        replace h117 := h117.mv hE rfl
        replace h129 := h129.mv hE rfl
        replace h131 := h131.mv hE rfl
        clear hE
        obtain ⟨r136, hr⟩ : ∃ r, ref05_Digits (gi (gi f_.Clauses i_111) k_116) = r := ⟨_, rfl⟩
        replace hm := hm r136 hr
        rw [hr] at hp
        clear hr
        subst hp
        obtain ⟨hq, hm⟩ := hm
        refine op1 (sadd (p := out_115) (q := r136) hS kr kr kr kr hq ?_)
        intro a hS
        clear hq
        obtain ⟨hq, hm⟩ := hm
        refine op1 (sadd (p := (out_115 ++ r136)) (q := ([32] : List UInt8)) hS kr kr kr kr hq ?_)
        intro a hS
        clear hq
        refine eP T hS ⟨[(1, Pt 2 0), (6, Z ((out_115 ++ r136) ++ ([32] : List UInt8))), (7, I i_111), (8, I k_116)], [(2, (25, [I f_.Vars, Sl a1 f_.Clauses c1]))]⟩ fun a hS => ?_
        refine region (eP T hS ⟨[(1, Pt 2 0), (6, Z ((out_115 ++ r136) ++ ([32] : List UInt8))), (7, I i_111), (8, I (IntKind.i64.wrap (k_116 + 1)))], [(2, (25, [I f_.Vars, Sl a1 f_.Clauses c1]))]⟩ fun a hS => ?_)
        exact ⟨⟨((out_115 ++ r136) ++ ([32] : List UInt8)), IntKind.i64.wrap (k_116 + 1)⟩, ⟨ρ, _, hm.1, hS.sl _, hO, h117⟩, hm.2⟩
       ·replace hm := hm.2 hb
        refine wexit (by rfl) ?_
        exact ⟨ρ, _, out_115, hm, hS.sl _, hO, h117⟩
     ·rintro a w140 ⟨ρ, χ139, out_113, hm, hS, hO, h114⟩
      unfold VC13_J2 at hm
      refine region ?_
      refine oP T hS 1 ⟨[(1, Pt 2 0), (6, Z out_113), (7, I i_111), (52, Z out_113)], [(2, (25, [I f_.Vars, Sl a1 f_.Clauses c1]))]⟩ fun a hS => ?_
      obtain ⟨hq, hm⟩ := hm
      refine op1 (sadd (p := out_113) (q := ([48, 10] : List UInt8)) hS kr kr kr kr hq ?_)
      intro a hS
      clear hq
      refine eP T hS ⟨[(1, Pt 2 0), (6, Z (out_113 ++ ([48, 10] : List UInt8))), (7, I i_111)], [(2, (25, [I f_.Vars, Sl a1 f_.Clauses c1]))]⟩ fun a hS => ?_
      refine region (eP T hS ⟨[(1, Pt 2 0), (6, Z (out_113 ++ ([48, 10] : List UInt8))), (7, I (IntKind.i64.wrap (i_111 + 1)))], [(2, (25, [I f_.Vars, Sl a1 f_.Clauses c1]))]⟩ fun a hS => ?_)
      exact ⟨⟨(out_113 ++ ([48, 10] : List UInt8)), IntKind.i64.wrap (i_111 + 1)⟩, ⟨ρ, _, hm.1, hS.sl _, hO, h114⟩, hm.2⟩
    ·replace hm := hm.2 hb
     refine wexit (by rfl) ?_
     exact ⟨ρ, _, out_110, hm, hS.sl _, hO⟩
  ·rintro a w144 ⟨ρ, χ143, out_109, hm, hS, hO⟩
   unfold VC13_J1 at hm
   refine wseq ?_
   refine rP T hS ⟨[(6, Z out_109), (56, B (decide (((out_109.length : Nat) : Int) > 1000000)))], []⟩ fun a hS => ?_
   refine wcond hS (b := decide (((out_109.length : Nat) : Int) > 1000000)) kr (fun hb => ?_) (fun hb => ?_)
   ·replace hm := hm.1 hb
    refine rP T hS ⟨[(2, Z ([] : List UInt8)), (3, I 3)], []⟩ fun a hS => ?_
    refine wret ?_
    exact fin T hS hO (fun c => c) rfl (r := [.string (bs ([] : List UInt8)), .int .i64 3]) kr (fun χ' hM hC => ⟨(([] : List UInt8), 3), hm, rfl⟩)
   ·replace hm := hm.2 hb
    refine wskip ?_
    refine rP T hS ⟨[(2, Z out_109), (3, I 0)], []⟩ fun a hS => ?_
    refine wret ?_
    exact fin T hS hO (fun c => c) rfl (r := [.string (bs out_109), .int .i64 0]) kr (fun χ' hM hC => ⟨(out_109, 0), hm, rfl⟩)
theorem C13 (k15 : S15) (k29 : S29) (k30 : S30) (v : ∀ (f_ : Api_Formula), VC13 f_ (fun r => r = ref06_Print f_)) : S13 := by
 intro w χ f_ a1 c1   h1
 refine (W13 k15 k29 k30 w χ f_ a1 c1   _ (v f_) h1).mono ?_
 rintro _ _ _ _ ⟨r, rfl, h⟩
 exact h
/-- replevin/replevinlaw06.DimacsPrints -/
theorem W4 (k11 : S11) (k12 : S12) (k13 : S13) (k14 : S14) (k15 : S15) (k7 : S7) (w0 : World) (χ0 : Nat → Nat) (f_ : Api_Formula) (vars : Int) (clauses : Int) (a1 : Option Addr) (c1 : Nat) (Q : Bool → Prop) (hm : VC4 f_ vars clauses Q) (h1 : RS (tSlice tI) w0 χ0 a1 f_.Clauses c1) (hAmb : Amb w0 χ0) :
  Ret Tryd.prog 4 #[.agg #[.int .i64 f_.Vars, .slice a1 f_.Clauses.length c1], .int .i64 vars, .int .i64 clauses] xnone w0 χ0 (fun w χ' v => ∃ r, Q r ∧ v = .bool r) := by
 unfold VC4 at hm
 replace hm := hm (h1.sm kr)
 refine enter Tryd.func4 rfl (vals := [.agg #[.int .i64 f_.Vars, .slice a1 f_.Clauses.length c1], .int .i64 vars, .int .i64 clauses]) kr ?_
 intro ρ a hS hO hM
 replace h1 := h1.m0 hM
 replace hAmb := hAmb.m0 hM
 clear hM
 refine rM T hS ⟨[(1, I vars), (2, I clauses), (3, Pt 4 0)], [(4, (25, [I f_.Vars, Sl a1 f_.Clauses c1]))]⟩ fun ρ a w129 χ130 hS hE hr => ?_
 replace hO := hO.mv hE rfl rfl
 replace h1 := h1.mv hE rfl
 replace hAmb := hAmb.mv hE rfl
 clear hE hr
 refine wseq ?_
 refine regO ?_
 refine oP T hS 1 ⟨[(1, I vars), (2, I clauses), (3, Pt 4 0), (11, V (.agg #[.int .i64 f_.Vars, .slice a1 f_.Clauses.length c1]))], [(4, (25, [I f_.Vars, Sl a1 f_.Clauses c1]))]⟩ fun a hS => ?_
 refine op1 (call hS kr kr hb11 kr (fun _ _ => rfl) (k11 _ _ f_ a1 c1 h1) ?_)
 intro v101 a w102 χ103 hE hp hS
 replace hO := hO.mv hE rfl rfl
 replace h1 := h1.mv hE rfl
 replace hAmb := hAmb.mv hE rfl
 clear hE
 obtain ⟨r104, hr⟩ : ∃ r, law04_Few f_ = r := ⟨_, rfl⟩
 replace hm := hm r104 hr
 rw [hr] at hp
 clear hr
 subst hp
 refine eP T hS ⟨[(1, I vars), (2, I clauses), (3, Pt 4 0), (13, B (!r104))], [(4, (25, [I f_.Vars, Sl a1 f_.Clauses c1]))]⟩ fun a hS => ?_
 refine wcond hS (b := (!r104)) kr (fun hb => ?_) (fun hb => ?_)
 ·replace hm := hm.1 hb
  refine regO ?_
  refine op1 (call hS kr kr hb7 kr (fun _ _ => rfl) (k7 _ _ hAmb) ?_)
  intro v105 a w106 χ107 hE hp hS
  replace hO := hO.mv hE rfl rfl
  replace h1 := h1.mv hE rfl
  replace hAmb := hAmb.mv hE rfl
  clear hE
  obtain ⟨r108, hr⟩ : ∃ r, law06_awake = r := ⟨_, rfl⟩
  replace hm := hm r108 hr
  rw [hr] at hp
  clear hr
  subst hp
  refine eP T hS ⟨[(6, B r108)], []⟩ fun a hS => ?_
  refine wret ?_
  exact fin T hS hO (fun c => c) rfl (r := [.bool r108]) kr (fun χ' hM hC => ⟨r108, hm, rfl⟩)
 ·replace hm := hm.2 hb
  refine wskip ?_
  refine regO ?_
  refine oP T hS 1 ⟨[(1, I vars), (2, I clauses), (3, Pt 4 0), (16, V (.agg #[.int .i64 f_.Vars, .slice a1 f_.Clauses.length c1]))], [(4, (25, [I f_.Vars, Sl a1 f_.Clauses c1]))]⟩ fun a hS => ?_
  refine op1 (call hS kr kr hb12 kr (fun _ _ => rfl) (k12 _ _ f_ a1 c1 h1 hAmb) ?_)
  intro v109 a w110 χ111 hE hp hS
  replace hO := hO.mv hE rfl rfl
  replace h1 := h1.mv hE rfl
  replace hAmb := hAmb.mv hE rfl
  clear hE
  obtain ⟨r112, hr⟩ : ∃ r, dimacs_Print f_ = r := ⟨_, rfl⟩
  replace hm := hm r112 hr
  rw [hr] at hp
  clear hr
  subst hp
  refine eP T hS ⟨[(1, I vars), (2, I clauses), (3, Pt 4 0), (7, Z r112.1), (8, I r112.2)], [(4, (25, [I f_.Vars, Sl a1 f_.Clauses c1]))]⟩ fun a hS => ?_
  refine regO ?_
  refine oP T hS 1 ⟨[(1, I vars), (2, I clauses), (7, Z r112.1), (8, I r112.2), (21, V (.agg #[.int .i64 f_.Vars, .slice a1 f_.Clauses.length c1]))], []⟩ fun a hS => ?_
  refine op1 (call hS kr kr hb13 kr (fun _ _ => rfl) (k13 _ _ f_ a1 c1 h1) ?_)
  intro v113 a w114 χ115 hE hp hS
  replace hO := hO.mv hE rfl rfl
  replace h1 := h1.mv hE rfl
  replace hAmb := hAmb.mv hE rfl
  clear hE
  obtain ⟨r116, hr⟩ : ∃ r, ref06_Print f_ = r := ⟨_, rfl⟩
  replace hm := hm r116 hr
  rw [hr] at hp
  clear hr
  subst hp
  refine eP T hS ⟨[(1, I vars), (2, I clauses), (7, Z r112.1), (8, I r112.2), (9, Z r116.1), (10, I r116.2)], []⟩ fun a hS => ?_
  refine regO ?_
  refine oP T hS 9 ⟨[(1, I vars), (2, I clauses), (33, B ((r112.1 == r116.1) && (r112.2 == r116.2)))], []⟩ (sp := [28]) fun a hS => ?_
  rcases Bool.eq_false_or_eq_true ((r112.1 == r116.1) && (r112.2 == r116.2)) with hb | hb
  ·replace hS := hS.lit (t := 33) kr hb
   replace hm := hm.1 hb
   refine oP T hS 2 ⟨[(1, I vars), (2, I clauses), (33, B true), (34, I vars), (35, I clauses)], []⟩ fun a hS => ?_
   obtain ⟨hq, hm⟩ := hm
   refine op1 (call hS kr kr hb14 kr (fun _ _ => rfl) (k14 _ _ vars clauses hq hAmb) ?_)
   intro v117 a w118 χ119 hE hp hS
   clear hq
   replace hO := hO.mv hE rfl rfl
   replace hAmb := hAmb.mv hE rfl
   clear hE
   obtain ⟨r120, hr⟩ : ∃ r, dimacs_Head vars clauses = r := ⟨_, rfl⟩
   replace hm := hm r120 hr
   rw [hr] at hp
   clear hr
   subst hp
   refine oP T hS 2 ⟨[(33, B true), (36, Z r120), (37, I vars), (38, I clauses)], []⟩ fun a hS => ?_
   obtain ⟨hq, hm⟩ := hm
   refine op1 (call hS kr kr hb15 kr (fun _ _ => rfl) (k15 _ _ vars clauses hq) ?_)
   intro v121 a w122 χ123 hE hp hS
   clear hq
   replace hO := hO.mv hE rfl rfl
   replace hAmb := hAmb.mv hE rfl
   clear hE
   obtain ⟨r124, hr⟩ : ∃ r, ref06_Head vars clauses = r := ⟨_, rfl⟩
   replace hm := hm r124 hr
   rw [hr] at hp
   clear hr
   subst hp
   refine oP T hS 3 ⟨[(42, B (r120 == r124))], []⟩ fun a hS => ?_
   rcases Bool.eq_false_or_eq_true (r120 == r124) with hb | hb
   ·replace hS := hS.lit (t := 42) kr hb
    replace hm := hm.1 hb
    refine op1 (call hS kr kr hb7 kr (fun _ _ => rfl) (k7 _ _ hAmb) ?_)
    intro v125 a w126 χ127 hE hp hS
    replace hO := hO.mv hE rfl rfl
    replace hAmb := hAmb.mv hE rfl
    clear hE
    obtain ⟨r128, hr⟩ : ∃ r, law06_awake = r := ⟨_, rfl⟩
    replace hm := hm r128 hr
    rw [hr] at hp
    clear hr
    subst hp
    refine eP T hS ⟨[(6, B r128)], []⟩ fun a hS => ?_
    refine wret ?_
    exact fin T hS hO (fun c => c) rfl (r := [.bool r128]) kr (fun χ' hM hC => ⟨r128, hm, rfl⟩)
   ·replace hS := hS.lit (t := 42) kr hb
    replace hm := hm.2 hb
    refine eP T hS ⟨[(6, B false)], []⟩ fun a hS => ?_
    refine wret ?_
    exact fin T hS hO (fun c => c) rfl (r := [.bool false]) kr (fun χ' hM hC => ⟨false, hm, rfl⟩)
  ·replace hS := hS.lit (t := 33) kr hb
   replace hm := hm.2 hb
   refine eP T hS ⟨[(6, B false)], []⟩ fun a hS => ?_
   refine wret ?_
   exact fin T hS hO (fun c => c) rfl (r := [.bool false]) kr (fun χ' hM hC => ⟨false, hm, rfl⟩)
end Go.Proofs.YtancoeikfkebfaaDoor
