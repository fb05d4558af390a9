/- Walks: each function returns what its condition asks. Condition: the contracts of its callees, handed in. -/
import Derived.Test.YtebhbnlbfglmkaaDoorPWalksS
set_option linter.all false
namespace Go.Proofs.YtebhbnlbfglmkaaDoor
open Go Go.Sv
set_option maxHeartbeats 1000000
/-- replevin/replevinref01.Split -/
theorem W61 (w0 : World) (χ0 : Nat → Nat) (l_ : Int) (Q : Int × Bool → Prop) (hm : VC61 l_ Q) :
  Ret Tryd.prog 61 #[.int .i64 l_] xnone w0 χ0 (fun w χ' v => ∃ r, Q r ∧ v = .tuple #[.int .i64 r.1, .bool r.2]) := by
 unfold VC61 at hm
 refine enter Tryd.func61 rfl (vals := [.int .i64 l_]) kr ?_
 intro ρ a hS hO hM
 clear hM
 refine rP T hS ⟨[(0, I l_)], []⟩ fun a hS => ?_
 refine wseq ?_
 refine rP T hS ⟨[(0, I l_), (9, B ((decide (l_ > 0)) && (decide (l_ ≤ 100000))))], []⟩ (sp := [6]) fun a hS => ?_
 refine wcond hS (b := ((decide (l_ > 0)) && (decide (l_ ≤ 100000)))) kr (fun hb => ?_) (fun hb => ?_)
 ·replace hm := hm.1 hb
  refine rP T hS ⟨[(2, I l_), (3, B true)], []⟩ fun a hS => ?_
  refine wret ?_
  exact fin T hS hO (fun c => c) rfl (r := [.int .i64 l_, .bool true]) kr (fun χ' hM hC => ⟨(l_, true), hm, rfl⟩)
 ·replace hm := hm.2 hb
  refine wskip ?_
  refine wseq ?_
  refine rP T hS ⟨[(0, I l_), (16, B ((decide (l_ < 0)) && (decide (l_ ≥ (-100000)))))], []⟩ (sp := [13]) fun a hS => ?_
  refine wcond hS (b := ((decide (l_ < 0)) && (decide (l_ ≥ (-100000))))) kr (fun hb => ?_) (fun hb => ?_)
  ·replace hm := hm.1 hb
   refine rP T hS ⟨[(2, I (IntKind.i64.wrap (0 - l_))), (3, B false)], []⟩ fun a hS => ?_
   refine wret ?_
   exact fin T hS hO (fun c => c) rfl (r := [.int .i64 (IntKind.i64.wrap (0 - l_)), .bool false]) kr (fun χ' hM hC => ⟨(IntKind.i64.wrap (0 - l_), false), hm, rfl⟩)
  ·replace hm := hm.2 hb
   refine wskip ?_
   refine rP T hS ⟨[(2, I 0), (3, B false)], []⟩ fun a hS => ?_
   refine wret ?_
   exact fin T hS hO (fun c => c) rfl (r := [.int .i64 0, .bool false]) kr (fun χ' hM hC => ⟨(0, false), hm, rfl⟩)
theorem C61 (v : ∀ (l_ : Int), VC61 l_ (fun r => r = ref01_Split l_)) : S61 := by
 intro w χ l_    
 refine (W61 w χ l_    _ (v l_)).mono ?_
 rintro _ _ _ _ ⟨r, rfl, h⟩
 exact h
/-- replevin/replevinref01.Check -/
theorem W47 (k61 : S61) (w0 : World) (χ0 : Nat → Nat) (l_ : Int) (vars : Int) (Q : Int → Prop) (hm : VC47 l_ vars Q) :
  Ret Tryd.prog 47 #[.int .i64 l_, .int .i64 vars] xnone w0 χ0 (fun w χ' v => ∃ r, Q r ∧ v = .int .i64 r) := by
 unfold VC47 at hm
 refine enter Tryd.func47 rfl (vals := [.int .i64 l_, .int .i64 vars]) kr ?_
 intro ρ a hS hO hM
 clear hM
 refine rP T hS ⟨[(0, I l_), (1, I vars)], []⟩ fun a hS => ?_
 refine wseq ?_
 refine rP T hS ⟨[(0, I l_), (1, I vars), (12, B ((decide (vars < 0)) || (decide (vars > 100000))))], []⟩ (sp := [9]) fun a hS => ?_
 refine wcond hS (b := ((decide (vars < 0)) || (decide (vars > 100000)))) kr (fun hb => ?_) (fun hb => ?_)
 ·replace hm := hm.1 hb
  refine rP T hS ⟨[(4, I 2)], []⟩ fun a hS => ?_
  refine wret ?_
  exact fin T hS hO (fun c => c) rfl (r := [.int .i64 2]) kr (fun χ' hM hC => ⟨2, hm, rfl⟩)
 ·replace hm := hm.2 hb
  refine wskip ?_
  refine regO ?_
  refine oP T hS 1 ⟨[(1, I vars), (14, I l_)], []⟩ fun a hS => ?_
  refine op1 (call hS kr kr hb61 kr (fun _ _ => rfl) (k61 _ _ l_) ?_)
  intro v101 a w102 χ103 hE hp hS
  replace hO := hO.mv hE rfl rfl
  clear hE
  obtain ⟨r104, hr⟩ : ∃ r, ref01_Split l_ = r := ⟨_, rfl⟩
  replace hm := hm r104 hr
  rw [hr] at hp
  clear hr
  subst hp
  refine eP T hS ⟨[(1, I vars), (5, I r104.1)], []⟩ fun a hS => ?_
  refine wseq ?_
  refine rP T hS ⟨[(24, B ((r104.1 == 0) || (decide (r104.1 > vars))))], []⟩ (sp := [20]) fun a hS => ?_
  refine wcond hS (b := ((r104.1 == 0) || (decide (r104.1 > vars)))) kr (fun hb => ?_) (fun hb => ?_)
  ·replace hm := hm.1 hb
   refine rP T hS ⟨[(4, I 10)], []⟩ fun a hS => ?_
   refine wret ?_
   exact fin T hS hO (fun c => c) rfl (r := [.int .i64 10]) kr (fun χ' hM hC => ⟨10, hm, rfl⟩)
  ·replace hm := hm.2 hb
   refine wskip ?_
   refine rP T hS ⟨[(4, I 0)], []⟩ fun a hS => ?_
   refine wret ?_
   exact fin T hS hO (fun c => c) rfl (r := [.int .i64 0]) kr (fun χ' hM hC => ⟨0, hm, rfl⟩)
theorem C47 (k61 : S61) (v : ∀ (l_ : Int) (vars : Int), VC47 l_ vars (fun r => r = ref01_Check l_ vars)) : S47 := by
 intro w χ l_ vars    
 refine (W47 k61 w χ l_ vars    _ (v l_ vars)).mono ?_
 rintro _ _ _ _ ⟨r, rfl, h⟩
 exact h
/-- replevin/replevinref02.Check -/
theorem W28 (k47 : S47) (k48 : S48) (w0 : World) (χ0 : Nat → Nat) (c_ : List Int) (vars : Int) (a1 : Option Addr) (c1 : Nat) (Q : Int → Prop) (hm : VC28 c_ vars Q) (h1 : RS tI w0 χ0 a1 c_ c1) :
  Ret Tryd.prog 28 #[.slice a1 c_.length c1, .int .i64 vars] xnone w0 χ0 (fun w χ' v => ∃ r, Q r ∧ v = .int .i64 r) := by
 unfold VC28 at hm
 replace hm := hm (h1.sm kr)
 refine enter Tryd.func28 rfl (vals := [.slice a1 c_.length c1, .int .i64 vars]) kr ?_
 intro ρ a hS hO hM
 replace h1 := h1.m0 hM
 clear hM
 refine rP T hS ⟨[(0, Sl a1 c_ c1), (1, I vars)], []⟩ fun a hS => ?_
 refine wseq ?_
 refine rP T hS ⟨[(0, Sl a1 c_ c1), (1, I vars), (12, B ((decide (vars < 0)) || (decide (vars > 100000))))], []⟩ (sp := [9]) fun a hS => ?_
 refine wcond hS (b := ((decide (vars < 0)) || (decide (vars > 100000)))) kr (fun hb => ?_) (fun hb => ?_)
 ·replace hm := hm.1 hb
  refine rP T hS ⟨[(4, I 2)], []⟩ fun a hS => ?_
  refine wret ?_
  exact fin T hS hO (fun c => c) rfl (r := [.int .i64 2]) kr (fun χ' hM hC => ⟨2, hm, rfl⟩)
 ·replace hm := hm.2 hb
  refine wskip ?_
  refine wseq ?_
  refine rP T hS ⟨[(0, Sl a1 c_ c1), (1, I vars), (15, B (decide (((c_.length : Nat) : Int) > 1000)))], []⟩ fun a hS => ?_
  refine wcond hS (b := decide (((c_.length : Nat) : Int) > 1000)) kr (fun hb => ?_) (fun hb => ?_)
  ·replace hm := hm.1 hb
   refine rP T hS ⟨[(4, I 3)], []⟩ fun a hS => ?_
   refine wret ?_
   exact fin T hS hO (fun c => c) rfl (r := [.int .i64 3]) kr (fun χ' hM hC => ⟨3, hm, rfl⟩)
  ·replace hm := hm.2 hb
   refine wskip ?_
   refine wcut (fun a w => ∃ (ρ : Nat → Nat) (χ : Nat → Nat), VC28_J1 c_ Q ∧ St Tryd.f28.ntmps ⟨[(0, Sl a1 c_ c1)], []⟩ ρ a w χ ∧ Old w0 χ0 w χ ∧ RS tI w χ a1 c_ c1) ?_ ?_
   ·refine rP T hS ⟨[(0, Sl a1 c_ c1), (1, I vars), (5, I 0)], []⟩ fun a hS => ?_
    refine wblock ?_
    obtain ⟨I2, μ2, hm0, hm⟩ := hm
    refine wloop (σ := Int) (fun s a w => ∃ (ρ : Nat → Nat) (χ : Nat → Nat), I2 s ∧ St Tryd.f28.ntmps ⟨[(0, Sl a1 c_ c1), (1, I vars), (5, I s)], []⟩ ρ a w χ ∧ Old w0 χ0 w χ ∧ RS tI w χ a1 c_ c1) (fun s => μ2 s) (0) ?_ ?_
    ·exact ⟨ρ, _, hm0, hS.sl _, hO, h1⟩
    ·rintro i_121 a w130 ⟨ρ, χ129, hI, hS, hO, h120⟩
     replace hm := hm i_121 hI
     clear hI hm0
     refine wseq ?_
     refine rP T hS ⟨[(0, Sl a1 c_ c1), (1, I vars), (5, I i_121), (19, B (decide (i_121 < ((c_.length : Nat) : Int))))], []⟩ fun a hS => ?_
     refine wcond hS (b := decide (i_121 < ((c_.length : Nat) : Int))) kr (fun hb => ?_) (fun hb => ?_)
     ·replace hm := hm.1 hb
      refine wskip ?_
      refine wseq ?_
      refine wblock ?_
      refine regO ?_
      refine oP T hS 2 ⟨[(0, Sl a1 c_ c1), (1, I vars), (5, I i_121), (22, Sl a1 c_ c1), (23, I i_121)], []⟩ fun a hS => ?_
      obtain ⟨hq, hm⟩ := hm
      refine op1 (index (e := 3) (k := .i64) T hS kr kr kr kr h120 kr kr hq.1 hq.2 ?_)
      intro A122 a h123 hS
      clear hq
      refine op1 (load1 T hS kr kr kr h123 rfl kr ?_)
      intro v124 a hv hS
      cases hv
      refine oP T hS 1 ⟨[(0, Sl a1 c_ c1), (1, I vars), (5, I i_121), (25, I (gi c_ i_121)), (26, I vars)], []⟩ fun a hS => ?_
      refine op1 (call hS kr kr hb47 kr (fun _ _ => rfl) (k47 _ _ (gi c_ i_121) vars) ?_)
      intro v125 a w126 χ127 hE hp hS
      replace hO := hO.mv hE rfl rfl
      replace h120 := h120.mv hE rfl
      clear hE
      obtain ⟨r128, hr⟩ : ∃ r, ref01_Check (gi c_ i_121) vars = r := ⟨_, rfl⟩
      replace hm := hm r128 hr
      rw [hr] at hp
      clear hr
      subst hp
      refine eP T hS ⟨[(0, Sl a1 c_ c1), (1, I vars), (5, I i_121), (28, B (r128 != 0))], []⟩ fun a hS => ?_
      refine wcond hS (b := (r128 != 0)) kr (fun hb => ?_) (fun hb => ?_)
      ·replace hm := hm.1 hb
       refine rP T hS ⟨[(4, I 10)], []⟩ fun a hS => ?_
       refine wret ?_
       exact fin T hS hO (fun c => c) rfl (r := [.int .i64 10]) kr (fun χ' hM hC => ⟨10, hm, rfl⟩)
      ·replace hm := hm.2 hb
       refine wskip ?_
       refine region (eP T hS ⟨[(0, Sl a1 c_ c1), (1, I vars), (5, I (IntKind.i64.wrap (i_121 + 1)))], []⟩ fun a hS => ?_)
       exact ⟨IntKind.i64.wrap (i_121 + 1), ⟨ρ, _, hm.1, hS.sl _, hO, h120⟩, hm.2⟩
     ·replace hm := hm.2 hb
      refine wexit (by rfl) ?_
      exact ⟨ρ, _, hm, hS.sl _, hO, h120⟩
   ·rintro a w132 ⟨ρ, χ131, hm, hS, hO, h101⟩
    unfold VC28_J1 at hm
    refine wcut (fun a w => ∃ (ρ : Nat → Nat) (χ : Nat → Nat), VC28_J2 Q ∧ St Tryd.f28.ntmps ⟨[], []⟩ ρ a w χ ∧ Old w0 χ0 w χ) ?_ ?_
    ·refine rP T hS ⟨[(0, Sl a1 c_ c1), (6, I 0)], []⟩ fun a hS => ?_
     refine wblock ?_
     obtain ⟨I1, μ1, hm0, hm⟩ := hm
     refine wloop (σ := Int) (fun s a w => ∃ (ρ : Nat → Nat) (χ : Nat → Nat), I1 s ∧ St Tryd.f28.ntmps ⟨[(0, Sl a1 c_ c1), (6, I s)], []⟩ ρ a w χ ∧ Old w0 χ0 w χ ∧ RS tI w χ a1 c_ c1) (fun s => μ1 s) (0) ?_ ?_
     ·exact ⟨ρ, _, hm0, hS.sl _, hO, h101⟩
     ·rintro i_103 a w117 ⟨ρ, χ116, hI, hS, hO, h102⟩
      replace hm := hm i_103 hI
      clear hI hm0
      refine wseq ?_
      refine rP T hS ⟨[(0, Sl a1 c_ c1), (6, I i_103), (32, B (decide (i_103 < ((c_.length : Nat) : Int))))], []⟩ fun a hS => ?_
      refine wcond hS (b := decide (i_103 < ((c_.length : Nat) : Int))) kr (fun hb => ?_) (fun hb => ?_)
      ·replace hm := hm.1 hb
       refine wskip ?_
       refine wseq ?_
       refine wblock ?_
       refine drawnSX [] mixed hS ?_
       intro w104 χ105 hS hE hD hH
       replace hO := hO.mv hE rfl rfl
       replace h102 := h102.mv hE rfl
       clear hE
       refine tk T [0, 1, 3, 4] [] hS hH #[true, true, false, true, true, false, false, false] 4 ⟨[(0, Sl a1 c_ c1), (6, I i_103), (35, Sl a1 c_ c1), (36, I i_103), (38, Sl a1 c_ c1), (39, I i_103)], []⟩ fun a hS => ?_
       obtain ⟨hq, hm⟩ := hm
       refine dslice0 (E := 3) (kh := .i64) T 2 hS kr kr kr (by rfl) kr hH kr kr h102 kr kr hq.1 hq.2 ?_
       intro a106 c107 a h108 hS
       clear hq
       obtain ⟨hq, hm⟩ := hm
       refine dindex (e := 3) (k := .i64) T 5 hS kr kr kr (by rfl) kr hH kr kr h102 kr kr hq.1 hq.2 ?_
       intro A109 a h110 hS
       clear hq
       have h110b := h110.here
       refine dload1 T 6 hS kr kr kr (by rfl) kr hH kr h110 h110b rfl kr ?_
       intro v111 a hv hS
       cases hv
       refine only 7 kr (by rfl) (call hS kr kr hb48 kr (fun _ _ => rfl) (k48 _ _ (c_.take i_103.toNat) (gi c_ i_103) a106 c107 h108) ?_)
       intro v112 a w113 χ114 hE hp hS
       replace hO := hO.mv hE rfl rfl
       replace hD := hD.ev hE rfl
       replace h102 := h102.mv hE rfl
       replace h108 := h108.mv hE rfl
       replace h110 := h110.mv hE rfl
       clear hE
       obtain ⟨r115, hr⟩ : ∃ r, ref01_Has (c_.take i_103.toNat) (gi c_ i_103) = r := ⟨_, rfl⟩
       replace hm := hm r115 hr
       rw [hr] at hp
       clear hr
       subst hp
       refine andH (Hold.of hS (bks := []) kr hD) ?_
       intro hH
       refine drawnDone kr ?_
       clear hD hH
       replace hS := hS.sl ⟨[(0, Sl a1 c_ c1), (6, I i_103), (42, B r115)], []⟩
       refine wcond hS (b := r115) kr (fun hb => ?_) (fun hb => ?_)
       ·replace hm := hm.1 hb
        refine rP T hS ⟨[(4, I 21)], []⟩ fun a hS => ?_
        refine wret ?_
        exact fin T hS hO (fun c => c) rfl (r := [.int .i64 21]) kr (fun χ' hM hC => ⟨21, hm, rfl⟩)
       ·replace hm := hm.2 hb
        refine wskip ?_
        refine region (eP T hS ⟨[(0, Sl a1 c_ c1), (6, I (IntKind.i64.wrap (i_103 + 1)))], []⟩ fun a hS => ?_)
        exact ⟨IntKind.i64.wrap (i_103 + 1), ⟨ρ, _, hm.1, hS.sl _, hO, h102⟩, hm.2⟩
      ·replace hm := hm.2 hb
       refine wexit (by rfl) ?_
       exact ⟨ρ, _, hm, hS.sl _, hO⟩
    ·rintro a w119 ⟨ρ, χ118, hm, hS, hO⟩
     unfold VC28_J2 at hm
     refine rP T hS ⟨[(4, I 0)], []⟩ fun a hS => ?_
     refine wret ?_
     exact fin T hS hO (fun c => c) rfl (r := [.int .i64 0]) kr (fun χ' hM hC => ⟨0, hm, rfl⟩)
theorem C28 (k47 : S47) (k48 : S48) (v : ∀ (c_ : List Int) (vars : Int), VC28 c_ vars (fun r => r = ref02_Check c_ vars)) : S28 := by
 intro w χ c_ vars a1 c1   h1
 refine (W28 k47 k48 w χ c_ vars a1 c1   _ (v c_ vars) h1).mono ?_
 rintro _ _ _ _ ⟨r, rfl, h⟩
 exact h
/-- replevin/replevinref04.SameRows -/
theorem W20 (k19 : S19) (w0 : World) (χ0 : Nat → Nat) (a_ : List (List Int)) (b_ : List (List Int)) (a1 : Option Addr) (c1 : Nat) (a2 : Option Addr) (c2 : Nat) (Q : Bool → Prop) (hm : VC20 a_ b_ Q) (h1 : RS (tSlice tI) w0 χ0 a1 a_ c1) (h2 : RS (tSlice tI) w0 χ0 a2 b_ c2) :
  Ret Tryd.prog 20 #[.slice a1 a_.length c1, .slice a2 b_.length c2] xnone w0 χ0 (fun w χ' v => ∃ r, Q r ∧ v = .bool r) := by
 unfold VC20 at hm
 replace hm := hm (h1.sm kr)
 replace hm := hm (h2.sm kr)
 refine enter Tryd.func20 rfl (vals := [.slice a1 a_.length c1, .slice a2 b_.length c2]) kr ?_
 intro ρ a hS hO hM
 replace h1 := h1.m0 hM
 replace h2 := h2.m0 hM
 clear hM
 refine rP T hS ⟨[(0, Sl a1 a_ c1), (1, Sl a2 b_ c2)], []⟩ fun a hS => ?_
 refine wseq ?_
 refine rP T hS ⟨[(0, Sl a1 a_ c1), (1, Sl a2 b_ c2), (10, B (((a_.length : Nat) : Int) != ((b_.length : Nat) : Int)))], []⟩ fun a hS => ?_
 refine wcond hS (b := (((a_.length : Nat) : Int) != ((b_.length : Nat) : Int))) kr (fun hb => ?_) (fun hb => ?_)
 ·replace hm := hm.1 hb
  refine rP T hS ⟨[(4, B false)], []⟩ fun a hS => ?_
  refine wret ?_
  exact fin T hS hO (fun c => c) rfl (r := [.bool false]) kr (fun χ' hM hC => ⟨false, hm, rfl⟩)
 ·replace hm := hm.2 hb
  refine wskip ?_
  refine wcut (fun a w => ∃ (ρ : Nat → Nat) (χ : Nat → Nat), VC20_J1 Q ∧ St Tryd.f20.ntmps ⟨[], []⟩ ρ a w χ ∧ Old w0 χ0 w χ) ?_ ?_
  ·refine rP T hS ⟨[(0, Sl a1 a_ c1), (1, Sl a2 b_ c2), (5, I 0)], []⟩ fun a hS => ?_
   refine wblock ?_
   obtain ⟨I1, μ1, hm0, hm⟩ := hm
   refine wloop (σ := Int) (fun s a w => ∃ (ρ : Nat → Nat) (χ : Nat → Nat), I1 s ∧ St Tryd.f20.ntmps ⟨[(0, Sl a1 a_ c1), (1, Sl a2 b_ c2), (5, I s)], []⟩ ρ a w χ ∧ Old w0 χ0 w χ ∧ RS (tSlice tI) w χ a1 a_ c1 ∧ RS (tSlice tI) w χ a2 b_ c2) (fun s => μ1 s) (0) ?_ ?_
   ·exact ⟨ρ, _, hm0, hS.sl _, hO, h1, h2⟩
   ·rintro i_103 a w123 ⟨ρ, χ122, hI, hS, hO, h101, h102⟩
    replace hm := hm i_103 hI
    clear hI hm0
    refine wseq ?_
    refine rP T hS ⟨[(0, Sl a1 a_ c1), (1, Sl a2 b_ c2), (5, I i_103), (14, B (decide (i_103 < ((a_.length : Nat) : Int))))], []⟩ fun a hS => ?_
    refine wcond hS (b := decide (i_103 < ((a_.length : Nat) : Int))) kr (fun hb => ?_) (fun hb => ?_)
    ·replace hm := hm.1 hb
     refine wskip ?_
     refine wseq ?_
     refine wblock ?_
     refine drawnSX [] mixed hS ?_
     intro w104 χ105 hS hE hD hH
     replace hO := hO.mv hE rfl rfl
     replace h101 := h101.mv hE rfl
     replace h102 := h102.mv hE rfl
     clear hE
     refine tk T [0, 1, 4, 5] [] hS hH #[true, true, false, false, true, true, false, false, false, false] 6 ⟨[(0, Sl a1 a_ c1), (1, Sl a2 b_ c2), (5, I i_103), (17, Sl a1 a_ c1), (18, I i_103), (21, Sl a2 b_ c2), (22, I i_103)], []⟩ fun a hS => ?_
     obtain ⟨hq, hm⟩ := hm
     refine dindex (e := 31) (k := .i64) T 2 hS kr kr kr (by rfl) kr hH kr kr h101 kr kr hq.1 hq.2 ?_
     intro A106 a h107 hS
     clear hq
     have h107b := h107.here
     refine dload1 T 3 hS kr kr kr (by rfl) kr hH kr h107 h107b rfl kr ?_
     intro v108 a hv hS
     obtain ⟨a109, c110, hv, h111⟩ := hv
     cases hv
     replace hm := hm (h111.sm kr)
     obtain ⟨hq, hm⟩ := hm
     refine dindex (e := 31) (k := .i64) T 6 hS kr kr kr (by rfl) kr hH kr kr h102 kr kr hq.1 hq.2 ?_
     intro A112 a h113 hS
     clear hq
     have h113b := h113.here
     refine dload1 T 7 hS kr kr kr (by rfl) kr hH kr h113 h113b rfl kr ?_
     intro v114 a hv hS
     obtain ⟨a115, c116, hv, h117⟩ := hv
     cases hv
     replace hm := hm (h117.sm kr)
     refine only 8 kr (by rfl) (call hS kr kr hb19 kr (fun _ _ => rfl) (k19 _ _ (gi a_ i_103) (gi b_ i_103) a109 c110 a115 c116 h111 h117) ?_)
     intro v118 a w119 χ120 hE hp hS
     replace hO := hO.mv hE rfl rfl
     replace hD := hD.ev hE rfl
     replace h101 := h101.mv hE rfl
     replace h102 := h102.mv hE rfl
     replace h107 := h107.mv hE rfl
     replace h111 := h111.mv hE rfl
     replace h113 := h113.mv hE rfl
     replace h117 := h117.mv hE rfl
     clear hE
     obtain ⟨r121, hr⟩ : ∃ r, ref01_SameInts (gi a_ i_103) (gi b_ i_103) = r := ⟨_, rfl⟩
     replace hm := hm r121 hr
     rw [hr] at hp
     clear hr
     subst hp
     refine andH (Hold.of hS (bks := []) kr hD) ?_
     intro hH
     refine tk T [9] [] hS hH #[true, true, true, true, true, true, true, true, true, true] 0 ⟨[(0, Sl a1 a_ c1), (1, Sl a2 b_ c2), (5, I i_103), (26, B (!r121))], []⟩ fun a hS => ?_
     refine drawnDone kr ?_
     clear hD hH
     replace hS := hS.sl ⟨[(0, Sl a1 a_ c1), (1, Sl a2 b_ c2), (5, I i_103), (26, B (!r121))], []⟩
     refine wcond hS (b := (!r121)) kr (fun hb => ?_) (fun hb => ?_)
     ·replace hm := hm.1 hb
      refine rP T hS ⟨[(4, B false)], []⟩ fun a hS => ?_
      refine wret ?_
      exact fin T hS hO (fun c => c) rfl (r := [.bool false]) kr (fun χ' hM hC => ⟨false, hm, rfl⟩)
     ·replace hm := hm.2 hb
      refine wskip ?_
      refine region (eP T hS ⟨[(0, Sl a1 a_ c1), (1, Sl a2 b_ c2), (5, I (IntKind.i64.wrap (i_103 + 1)))], []⟩ fun a hS => ?_)
      exact ⟨IntKind.i64.wrap (i_103 + 1), ⟨ρ, _, hm.1, hS.sl _, hO, h101, h102⟩, hm.2⟩
    ·replace hm := hm.2 hb
     refine wexit (by rfl) ?_
     exact ⟨ρ, _, hm, hS.sl _, hO⟩
  ·rintro a w125 ⟨ρ, χ124, hm, hS, hO⟩
   unfold VC20_J1 at hm
   refine rP T hS ⟨[(4, B true)], []⟩ fun a hS => ?_
   refine wret ?_
   exact fin T hS hO (fun c => c) rfl (r := [.bool true]) kr (fun χ' hM hC => ⟨true, hm, rfl⟩)
theorem C20 (k19 : S19) (v : ∀ (a_ : List (List Int)) (b_ : List (List Int)), VC20 a_ b_ (fun r => r = ref04_SameRows a_ b_)) : S20 := by
 intro w χ a_ b_ a1 c1 a2 c2   h1 h2
 refine (W20 k19 w χ a_ b_ a1 c1 a2 c2   _ (v a_ b_) h1 h2).mono ?_
 rintro _ _ _ _ ⟨r, rfl, h⟩
 exact h
/-- replevin/replevinref10.within -/
theorem W29 (w0 : World) (χ0 : Nat → Nat) (l_ : List Int) (lo : Int) (a1 : Option Addr) (c1 : Nat) (Q : Bool → Prop) (hm : VC29 l_ lo Q) (h1 : RS tI w0 χ0 a1 l_ c1) :
  Ret Tryd.prog 29 #[.slice a1 l_.length c1, .int .i64 lo] xnone w0 χ0 (fun w χ' v => ∃ r, Q r ∧ v = .bool r) := by
 unfold VC29 at hm
 replace hm := hm (h1.sm kr)
 refine enter Tryd.func29 rfl (vals := [.slice a1 l_.length c1, .int .i64 lo]) kr ?_
 intro ρ a hS hO hM
 replace h1 := h1.m0 hM
 clear hM
 refine rP T hS ⟨[(0, Sl a1 l_ c1), (1, I lo)], []⟩ fun a hS => ?_
 refine wcut (fun a w => ∃ (ρ : Nat → Nat) (χ : Nat → Nat), VC29_J1 l_ Q ∧ St Tryd.f29.ntmps ⟨[(0, Sl a1 l_ c1)], []⟩ ρ a w χ ∧ Old w0 χ0 w χ ∧ RS tI w χ a1 l_ c1) ?_ ?_
 ·refine rP T hS ⟨[(0, Sl a1 l_ c1), (1, I lo), (5, I 0)], []⟩ fun a hS => ?_
  refine wblock ?_
  obtain ⟨I1, μ1, hm0, hm⟩ := hm
  refine wloop (σ := Int) (fun s a w => ∃ (ρ : Nat → Nat) (χ : Nat → Nat), I1 s ∧ St Tryd.f29.ntmps ⟨[(0, Sl a1 l_ c1), (1, I lo), (5, I s)], []⟩ ρ a w χ ∧ Old w0 χ0 w χ ∧ RS tI w χ a1 l_ c1) (fun s => μ1 s) (0) ?_ ?_
  ·exact ⟨ρ, _, hm0, hS.sl _, hO, h1⟩
  ·rintro i_103 a w118 ⟨ρ, χ117, hI, hS, hO, h102⟩
   replace hm := hm i_103 hI
   clear hI hm0
   refine wseq ?_
   refine rP T hS ⟨[(0, Sl a1 l_ c1), (1, I lo), (5, I i_103), (9, B (decide (i_103 < ((l_.length : Nat) : Int))))], []⟩ fun a hS => ?_
   refine wcond hS (b := decide (i_103 < ((l_.length : Nat) : Int))) kr (fun hb => ?_) (fun hb => ?_)
   ·replace hm := hm.1 hb
    refine wskip ?_
    refine wseq ?_
    refine wblock ?_
    refine wcut (fun a w => ∃ (ρ : Nat → Nat) (χ : Nat → Nat) (x_105 : Bool), VC29_J2 Q I1 μ1 i_103 x_105 ∧ St Tryd.f29.ntmps ⟨[(0, Sl a1 l_ c1), (1, I lo), (5, I i_103), (31, B x_105)], []⟩ ρ a w χ ∧ Old w0 χ0 w χ ∧ RS tI w χ a1 l_ c1) ?_ ?_
    ·refine region ?_
     refine oP T hS 2 ⟨[(0, Sl a1 l_ c1), (1, I lo), (5, I i_103), (12, Sl a1 l_ c1), (13, I i_103)], []⟩ fun a hS => ?_
     obtain ⟨hq, hm⟩ := hm
     refine op1 (index (e := 3) (k := .i64) T hS kr kr kr kr h102 kr kr hq.1 hq.2 ?_)
     intro A106 a h107 hS
     clear hq
     refine op1 (load1 T hS kr kr kr h107 rfl kr ?_)
     intro v108 a hv hS
     cases hv
     refine oP T hS 3 ⟨[(0, Sl a1 l_ c1), (1, I lo), (5, I i_103), (18, B (decide ((gi l_ i_103) < lo)))], []⟩ fun a hS => ?_
     rcases Bool.eq_false_or_eq_true (decide ((gi l_ i_103) < lo)) with hb | hb
     ·replace hS := hS.lit (t := 18) kr hb
      replace hm := hm.1 hb
      refine eP T hS ⟨[(0, Sl a1 l_ c1), (1, I lo), (5, I i_103), (31, B true)], []⟩ fun a hS => ?_
      exact ⟨ρ, _, true, hm, hS.sl _, hO, h102⟩
     ·replace hS := hS.lit (t := 18) kr hb
      replace hm := hm.2 hb
      refine oP T hS 2 ⟨[(0, Sl a1 l_ c1), (1, I lo), (5, I i_103), (18, B false), (19, Sl a1 l_ c1), (20, I i_103)], []⟩ fun a hS => ?_
      obtain ⟨hq, hm⟩ := hm
      refine op1 (index (e := 3) (k := .i64) T hS kr kr kr kr h102 kr kr hq.1 hq.2 ?_)
      intro A109 a h110 hS
      clear hq
      refine op1 (load1 T hS kr kr kr h110 rfl kr ?_)
      intro v111 a hv hS
      cases hv
      refine oP T hS 3 ⟨[(0, Sl a1 l_ c1), (1, I lo), (5, I i_103), (19, Sl a1 l_ c1), (20, I i_103), (21, V (.pointer (some A109))), (22, I (gi l_ i_103)), (23, B (decide ((gi l_ i_103) > 10000000))), (25, B (decide ((gi l_ i_103) > 10000000)))], []⟩ fun a hS => ?_
      rcases Bool.eq_false_or_eq_true (decide ((gi l_ i_103) > 10000000)) with hb | hb
      ·replace hS := hS.lit (t := 25) kr hb
       replace hm := hm.1 hb
       refine eP T hS ⟨[(0, Sl a1 l_ c1), (1, I lo), (5, I i_103), (19, Sl a1 l_ c1), (20, I i_103), (21, V (.pointer (some A109))), (22, I (gi l_ i_103)), (23, B (decide ((gi l_ i_103) > 10000000))), (31, B true)], []⟩ fun a hS => ?_
       exact ⟨ρ, _, true, hm, hS.sl _, hO, h102⟩
      ·replace hS := hS.lit (t := 25) kr hb
       replace hm := hm.2 hb
       refine oP T hS 2 ⟨[(0, Sl a1 l_ c1), (1, I lo), (5, I i_103), (19, Sl a1 l_ c1), (20, I i_103), (21, V (.pointer (some A109))), (22, I (gi l_ i_103)), (23, B (decide ((gi l_ i_103) > 10000000))), (25, B false), (26, Sl a1 l_ c1), (27, I i_103)], []⟩ fun a hS => ?_
       obtain ⟨hq, hm⟩ := hm
       refine op1 (index (e := 3) (k := .i64) T hS kr kr kr kr h102 kr kr hq.1 hq.2 ?_)
       intro A112 a h113 hS
       clear hq
       refine op1 (load1 T hS kr kr kr h113 rfl kr ?_)
       intro v114 a hv hS
       cases hv
       refine eP T hS ⟨[(0, Sl a1 l_ c1), (1, I lo), (5, I i_103), (19, Sl a1 l_ c1), (20, I i_103), (21, V (.pointer (some A109))), (22, I (gi l_ i_103)), (23, B (decide ((gi l_ i_103) > 10000000))), (26, Sl a1 l_ c1), (27, I i_103), (28, V (.pointer (some A112))), (29, I (gi l_ i_103)), (30, B ((gi l_ i_103) == 0)), (31, B ((gi l_ i_103) == 0))], []⟩ fun a hS => ?_
       exact ⟨ρ, _, ((gi l_ i_103) == 0), hm, hS.sl _, hO, h102⟩
    ·rintro a w116 ⟨ρ, χ115, x_105, hm, hS, hO, h104⟩
     unfold VC29_J2 at hm
     refine wcond hS (b := x_105) kr (fun hb => ?_) (fun hb => ?_)
     ·replace hm := hm.1 hb
      refine rP T hS ⟨[(4, B false)], []⟩ fun a hS => ?_
      refine wret ?_
      exact fin T hS hO (fun c => c) rfl (r := [.bool false]) kr (fun χ' hM hC => ⟨false, hm, rfl⟩)
     ·replace hm := hm.2 hb
      refine wskip ?_
      refine region (eP T hS ⟨[(0, Sl a1 l_ c1), (1, I lo), (5, I (IntKind.i64.wrap (i_103 + 1)))], []⟩ fun a hS => ?_)
      exact ⟨IntKind.i64.wrap (i_103 + 1), ⟨ρ, _, hm.1, hS.sl _, hO, h104⟩, hm.2⟩
   ·replace hm := hm.2 hb
    refine wexit (by rfl) ?_
    exact ⟨ρ, _, hm, hS.sl _, hO, h102⟩
 ·rintro a w120 ⟨ρ, χ119, hm, hS, hO, h101⟩
  unfold VC29_J1 at hm
  refine rP T hS ⟨[(4, B (decide (((l_.length : Nat) : Int) ≤ 1000)))], []⟩ fun a hS => ?_
  refine wret ?_
  exact fin T hS hO (fun c => c) rfl (r := [.bool (decide (((l_.length : Nat) : Int) ≤ 1000))]) kr (fun χ' hM hC => ⟨(decide (((l_.length : Nat) : Int) ≤ 1000)), hm, rfl⟩)
theorem C29 (v : ∀ (l_ : List Int) (lo : Int), VC29 l_ lo (fun r => r = ref10_within l_ lo)) : S29 := by
 intro w χ l_ lo a1 c1   h1
 refine (W29 w χ l_ lo a1 c1   _ (v l_ lo) h1).mono ?_
 rintro _ _ _ _ ⟨r, rfl, h⟩
 exact h
/-- replevin/replevinref10.Check -/
theorem W13 (k28 : S28) (k29 : S29) (w0 : World) (χ0 : Nat → Nat) (l_ : List Api_Step) (a1 : Option Addr) (c1 : Nat) (Q : Int × Int → Prop) (hm : VC13 l_ Q) (h1 : RS tApi_Step w0 χ0 a1 l_ c1) :
  Ret Tryd.prog 13 #[.slice a1 l_.length c1] xnone w0 χ0 (fun w χ' v => ∃ r, Q r ∧ v = .tuple #[.int .i64 r.1, .int .i64 r.2]) := by
 unfold VC13 at hm
 replace hm := hm (h1.sm kr)
 refine enter Tryd.func13 rfl (vals := [.slice a1 l_.length c1]) kr ?_
 intro ρ a hS hO hM
 replace h1 := h1.m0 hM
 clear hM
 refine rP T hS ⟨[(0, Sl a1 l_ c1)], []⟩ fun a hS => ?_
 refine wseq ?_
 refine rP T hS ⟨[(0, Sl a1 l_ c1), (10, B (decide (((l_.length : Nat) : Int) > 1000000)))], []⟩ fun a hS => ?_
 refine wcond hS (b := decide (((l_.length : Nat) : Int) > 1000000)) kr (fun hb => ?_) (fun hb => ?_)
 ·replace hm := hm.1 hb
  refine rP T hS ⟨[(2, I 0), (3, I 3)], []⟩ fun a hS => ?_
  refine wret ?_
  exact fin T hS hO (fun c => c) rfl (r := [.int .i64 0, .int .i64 3]) kr (fun χ' hM hC => ⟨(0, 3), hm, rfl⟩)
 ·replace hm := hm.2 hb
  refine wskip ?_
  refine wcut (fun a w => ∃ (ρ : Nat → Nat) (χ : Nat → Nat), VC13_J1 l_ Q ∧ St Tryd.f13.ntmps ⟨[(0, Sl a1 l_ c1)], []⟩ ρ a w χ ∧ Old w0 χ0 w χ ∧ RS tApi_Step w χ a1 l_ c1) ?_ ?_
  ·refine rP T hS ⟨[(0, Sl a1 l_ c1), (4, I 0)], []⟩ fun a hS => ?_
   refine wblock ?_
   obtain ⟨I1, μ1, hm0, hm⟩ := hm
   refine wloop (σ := Int) (fun s a w => ∃ (ρ : Nat → Nat) (χ : Nat → Nat), I1 s ∧ St Tryd.f13.ntmps ⟨[(0, Sl a1 l_ c1), (4, I s)], []⟩ ρ a w χ ∧ Old w0 χ0 w χ ∧ RS tApi_Step w χ a1 l_ c1) (fun s => μ1 s) (0) ?_ ?_
   ·exact ⟨ρ, _, hm0, hS.sl _, hO, h1⟩
   ·rintro i_103 a w138 ⟨ρ, χ137, hI, hS, hO, h102⟩
    replace hm := hm i_103 hI
    clear hI hm0
    refine wseq ?_
    refine rP T hS ⟨[(0, Sl a1 l_ c1), (4, I i_103), (14, B (decide (i_103 < ((l_.length : Nat) : Int))))], []⟩ fun a hS => ?_
    refine wcond hS (b := decide (i_103 < ((l_.length : Nat) : Int))) kr (fun hb => ?_) (fun hb => ?_)
    ·replace hm := hm.1 hb
     refine wskip ?_
     refine wseq ?_
     refine wblock ?_
     refine regO ?_
     refine oP T hS 2 ⟨[(0, Sl a1 l_ c1), (4, I i_103), (17, Sl a1 l_ c1), (18, I i_103)], []⟩ fun a hS => ?_
     obtain ⟨hq, hm⟩ := hm
     refine op1 (index (e := 52) (k := .i64) T hS kr kr kr kr h102 kr kr hq.1 hq.2 ?_)
     intro A104 a h105 hS
     clear hq
     refine op1 (loadA T hS kr kr kr h105 kr kr ?_)
     intro v106 a hv hS
     obtain ⟨a107, c108, a110, c111, hv, h109, h112⟩ := hv
     subst hv
     replace hm := hm (h109.sm kr)
     replace hm := hm (h112.sm kr)
     refine eM T hS ⟨[(0, Sl a1 l_ c1), (4, I i_103), (5, Pt 6 0)], [(6, (52, [I ((gi l_ i_103).Kind), I ((gi l_ i_103).Id), Sl a107 ((gi l_ i_103).Lits) c108, Sl a110 ((gi l_ i_103).Hints) c111]))]⟩ fun ρ a w135 χ136 hS hE hr => ?_
     replace hO := hO.mv hE rfl rfl
     replace h102 := h102.mv hE rfl
     replace h109 := h109.mv hE rfl
     replace h112 := h112.mv hE rfl
     clear hE hr
     refine wcut (fun a w => ∃ (ρ : Nat → Nat) (χ : Nat → Nat) (add_114 : Bool), VC13_J2 l_ Q I1 μ1 i_103 add_114 ∧ St Tryd.f13.ntmps ⟨[(0, Sl a1 l_ c1), (4, I i_103), (5, Pt 6 0), (6, B add_114)], [(6, (52, [I ((gi l_ i_103).Kind), I ((gi l_ i_103).Id), Sl a107 ((gi l_ i_103).Lits) c108, Sl a110 ((gi l_ i_103).Hints) c111]))]⟩ ρ a w χ ∧ Old w0 χ0 w χ ∧ RS tApi_Step w χ a1 l_ c1 ∧ RS tI w χ a107 ((gi l_ i_103).Lits) c108 ∧ RS tI w χ a110 ((gi l_ i_103).Hints) c111) ?_ ?_
     ·refine region ?_
      refine oP T hS 14 ⟨[(0, Sl a1 l_ c1), (4, I i_103), (5, Pt 6 0), (34, B (((((gi l_ i_103).Kind) == 1) && (decide (((gi l_ i_103).Id) ≥ 1))) && (decide (((gi l_ i_103).Id) ≤ 10000000))))], [(6, (52, [I ((gi l_ i_103).Kind), I ((gi l_ i_103).Id), Sl a107 ((gi l_ i_103).Lits) c108, Sl a110 ((gi l_ i_103).Hints) c111]))]⟩ (sp := [24, 29]) fun a hS => ?_
      rcases Bool.eq_false_or_eq_true (((((gi l_ i_103).Kind) == 1) && (decide (((gi l_ i_103).Id) ≥ 1))) && (decide (((gi l_ i_103).Id) ≤ 10000000))) with hb | hb
      ·replace hS := hS.lit (t := 34) kr hb
       replace hm := hm.1 hb
       refine oP T hS 2 ⟨[(0, Sl a1 l_ c1), (4, I i_103), (5, Pt 6 0), (34, B true), (35, Pt 6 2), (36, Sl a107 ((gi l_ i_103).Lits) c108)], [(6, (52, [I ((gi l_ i_103).Kind), I ((gi l_ i_103).Id), Sl a107 ((gi l_ i_103).Lits) c108, Sl a110 ((gi l_ i_103).Hints) c111]))]⟩ fun a hS => ?_
       refine op1 (call hS kr kr hb28 kr (fun _ _ => rfl) (k28 _ _ ((gi l_ i_103).Lits) 100000 a107 c108 h109) ?_)
       intro v125 a w126 χ127 hE hp hS
       replace hO := hO.mv hE rfl rfl
       replace h102 := h102.mv hE rfl
       replace h109 := h109.mv hE rfl
       replace h112 := h112.mv hE rfl
       clear hE
       obtain ⟨r128, hr⟩ : ∃ r, ref02_Check ((gi l_ i_103).Lits) 100000 = r := ⟨_, rfl⟩
       replace hm := hm r128 hr
       rw [hr] at hp
       clear hr
       subst hp
       refine oP T hS 3 ⟨[(0, Sl a1 l_ c1), (4, I i_103), (5, Pt 6 0), (35, Pt 6 2), (36, Sl a107 ((gi l_ i_103).Lits) c108), (37, I r128), (38, B (r128 == 0)), (40, B (r128 == 0))], [(6, (52, [I ((gi l_ i_103).Kind), I ((gi l_ i_103).Id), Sl a107 ((gi l_ i_103).Lits) c108, Sl a110 ((gi l_ i_103).Hints) c111]))]⟩ fun a hS => ?_
       rcases Bool.eq_false_or_eq_true (r128 == 0) with hb | hb
       ·replace hS := hS.lit (t := 40) kr hb
        replace hm := hm.1 hb
        refine oP T hS 2 ⟨[(0, Sl a1 l_ c1), (4, I i_103), (5, Pt 6 0), (35, Pt 6 2), (36, Sl a107 ((gi l_ i_103).Lits) c108), (37, I r128), (38, B (r128 == 0)), (40, B true), (41, Pt 6 3), (42, Sl a110 ((gi l_ i_103).Hints) c111)], [(6, (52, [I ((gi l_ i_103).Kind), I ((gi l_ i_103).Id), Sl a107 ((gi l_ i_103).Lits) c108, Sl a110 ((gi l_ i_103).Hints) c111]))]⟩ fun a hS => ?_
        refine op1 (call hS kr kr hb29 kr (fun _ _ => rfl) (k29 _ _ ((gi l_ i_103).Hints) (-10000000) a110 c111 h112) ?_)
        intro v129 a w130 χ131 hE hp hS
        replace hO := hO.mv hE rfl rfl
        replace h102 := h102.mv hE rfl
        replace h109 := h109.mv hE rfl
        replace h112 := h112.mv hE rfl
        clear hE
        obtain ⟨r132, hr⟩ : ∃ r, ref10_within ((gi l_ i_103).Hints) (-10000000) = r := ⟨_, rfl⟩
        replace hm := hm r132 hr
        rw [hr] at hp
        clear hr
        subst hp
        refine eP T hS ⟨[(0, Sl a1 l_ c1), (4, I i_103), (5, Pt 6 0), (6, B r132), (35, Pt 6 2), (36, Sl a107 ((gi l_ i_103).Lits) c108), (37, I r128), (38, B (r128 == 0)), (41, Pt 6 3), (42, Sl a110 ((gi l_ i_103).Hints) c111), (43, B r132)], [(6, (52, [I ((gi l_ i_103).Kind), I ((gi l_ i_103).Id), Sl a107 ((gi l_ i_103).Lits) c108, Sl a110 ((gi l_ i_103).Hints) c111]))]⟩ fun a hS => ?_
        exact ⟨ρ, _, r132, hm, hS.sl _, hO, h102, h109, h112⟩
       ·replace hS := hS.lit (t := 40) kr hb
        replace hm := hm.2 hb
        refine eP T hS ⟨[(0, Sl a1 l_ c1), (4, I i_103), (5, Pt 6 0), (6, B false), (35, Pt 6 2), (36, Sl a107 ((gi l_ i_103).Lits) c108), (37, I r128), (38, B (r128 == 0))], [(6, (52, [I ((gi l_ i_103).Kind), I ((gi l_ i_103).Id), Sl a107 ((gi l_ i_103).Lits) c108, Sl a110 ((gi l_ i_103).Hints) c111]))]⟩ fun a hS => ?_
        exact ⟨ρ, _, false, hm, hS.sl _, hO, h102, h109, h112⟩
      ·replace hS := hS.lit (t := 34) kr hb
       replace hm := hm.2 hb
       refine eP T hS ⟨[(0, Sl a1 l_ c1), (4, I i_103), (5, Pt 6 0), (6, B false)], [(6, (52, [I ((gi l_ i_103).Kind), I ((gi l_ i_103).Id), Sl a107 ((gi l_ i_103).Lits) c108, Sl a110 ((gi l_ i_103).Hints) c111]))]⟩ fun a hS => ?_
       exact ⟨ρ, _, false, hm, hS.sl _, hO, h102, h109, h112⟩
     ·rintro a w134 ⟨ρ, χ133, add_114, hm, hS, hO, h113, h115, h116⟩
      unfold VC13_J2 at hm
      refine wcut (fun a w => ∃ (ρ : Nat → Nat) (χ : Nat → Nat) (del_118 : Bool), VC13_J3 Q I1 μ1 i_103 add_114 del_118 ∧ St Tryd.f13.ntmps ⟨[(0, Sl a1 l_ c1), (4, I i_103), (6, B add_114), (7, B del_118)], []⟩ ρ a w χ ∧ Old w0 χ0 w χ ∧ RS tApi_Step w χ a1 l_ c1) ?_ ?_
      ·refine region ?_
       refine oP T hS 20 ⟨[(0, Sl a1 l_ c1), (4, I i_103), (5, Pt 6 0), (6, B add_114), (64, B ((((((gi l_ i_103).Kind) == 2) && (decide (((gi l_ i_103).Id) ≥ 0))) && (decide (((gi l_ i_103).Id) ≤ 10000000))) && (((((gi l_ i_103).Lits).length : Nat) : Int) == 0)))], [(6, (52, [I ((gi l_ i_103).Kind), I ((gi l_ i_103).Id), Sl a107 ((gi l_ i_103).Lits) c108, Sl a110 ((gi l_ i_103).Hints) c111]))]⟩ (sp := [48, 53, 58]) fun a hS => ?_
       rcases Bool.eq_false_or_eq_true ((((((gi l_ i_103).Kind) == 2) && (decide (((gi l_ i_103).Id) ≥ 0))) && (decide (((gi l_ i_103).Id) ≤ 10000000))) && (((((gi l_ i_103).Lits).length : Nat) : Int) == 0)) with hb | hb
       ·replace hS := hS.lit (t := 64) kr hb
        replace hm := hm.1 hb
        refine oP T hS 2 ⟨[(0, Sl a1 l_ c1), (4, I i_103), (6, B add_114), (64, B true), (65, Pt 6 3), (66, Sl a110 ((gi l_ i_103).Hints) c111)], [(6, (52, [I ((gi l_ i_103).Kind), I ((gi l_ i_103).Id), Sl a107 ((gi l_ i_103).Lits) c108, Sl a110 ((gi l_ i_103).Hints) c111]))]⟩ fun a hS => ?_
        refine op1 (call hS kr kr hb29 kr (fun _ _ => rfl) (k29 _ _ ((gi l_ i_103).Hints) 1 a110 c111 h116) ?_)
        intro v119 a w120 χ121 hE hp hS
        replace hO := hO.mv hE rfl rfl
        replace h113 := h113.mv hE rfl
        replace h115 := h115.mv hE rfl
        replace h116 := h116.mv hE rfl
        clear hE
        obtain ⟨r122, hr⟩ : ∃ r, ref10_within ((gi l_ i_103).Hints) 1 = r := ⟨_, rfl⟩
        replace hm := hm r122 hr
        rw [hr] at hp
        clear hr
        subst hp
        refine eP T hS ⟨[(0, Sl a1 l_ c1), (4, I i_103), (6, B add_114), (7, B r122), (65, Pt 6 3), (66, Sl a110 ((gi l_ i_103).Hints) c111), (67, B r122)], [(6, (52, [I ((gi l_ i_103).Kind), I ((gi l_ i_103).Id), Sl a107 ((gi l_ i_103).Lits) c108, Sl a110 ((gi l_ i_103).Hints) c111]))]⟩ fun a hS => ?_
        exact ⟨ρ, _, r122, hm, hS.sl _, hO, h113⟩
       ·replace hS := hS.lit (t := 64) kr hb
        replace hm := hm.2 hb
        refine eP T hS ⟨[(0, Sl a1 l_ c1), (4, I i_103), (6, B add_114), (7, B false)], []⟩ fun a hS => ?_
        exact ⟨ρ, _, false, hm, hS.sl _, hO, h113⟩
      ·rintro a w124 ⟨ρ, χ123, del_118, hm, hS, hO, h117⟩
       unfold VC13_J3 at hm
       refine rP T hS ⟨[(0, Sl a1 l_ c1), (4, I i_103), (74, B ((!add_114) && (!del_118)))], []⟩ (sp := [71]) fun a hS => ?_
       refine wcond hS (b := ((!add_114) && (!del_118))) kr (fun hb => ?_) (fun hb => ?_)
       ·replace hm := hm.1 hb
        refine rP T hS ⟨[(2, I i_103), (3, I 2)], []⟩ fun a hS => ?_
        refine wret ?_
        exact fin T hS hO (fun c => c) rfl (r := [.int .i64 i_103, .int .i64 2]) kr (fun χ' hM hC => ⟨(i_103, 2), hm, rfl⟩)
       ·replace hm := hm.2 hb
        refine wskip ?_
        refine region (eP T hS ⟨[(0, Sl a1 l_ c1), (4, I (IntKind.i64.wrap (i_103 + 1)))], []⟩ fun a hS => ?_)
        exact ⟨IntKind.i64.wrap (i_103 + 1), ⟨ρ, _, hm.1, hS.sl _, hO, h117⟩, hm.2⟩
    ·replace hm := hm.2 hb
     refine wexit (by rfl) ?_
     exact ⟨ρ, _, hm, hS.sl _, hO, h102⟩
  ·rintro a w140 ⟨ρ, χ139, hm, hS, hO, h101⟩
   unfold VC13_J1 at hm
   refine rP T hS ⟨[(2, I ((l_.length : Nat) : Int)), (3, I 0)], []⟩ fun a hS => ?_
   refine wret ?_
   exact fin T hS hO (fun c => c) rfl (r := [.int .i64 ((l_.length : Nat) : Int), .int .i64 0]) kr (fun χ' hM hC => ⟨(((l_.length : Nat) : Int), 0), hm, rfl⟩)
theorem C13 (k28 : S28) (k29 : S29) (v : ∀ (l_ : List Api_Step), VC13 l_ (fun r => r = ref10_Check l_)) : S13 := by
 intro w χ l_ a1 c1   h1
 refine (W13 k28 k29 w χ l_ a1 c1   _ (v l_) h1).mono ?_
 rintro _ _ _ _ ⟨r, rfl, h⟩
 exact h
/-- replevin/replevinref10.numbers -/
theorem W32 (k31 : S31) (w0 : World) (χ0 : Nat → Nat) (l_ : List Int) (a1 : Option Addr) (c1 : Nat) (Q : (List UInt8) → Prop) (hm : VC32 l_ Q) (h1 : RS tI w0 χ0 a1 l_ c1) :
  Ret Tryd.prog 32 #[.slice a1 l_.length c1] xnone w0 χ0 (fun w χ' v => ∃ r, Q r ∧ v = .string (bs r)) := by
 unfold VC32 at hm
 replace hm := hm (h1.sm kr)
 refine enter Tryd.func32 rfl (vals := [.slice a1 l_.length c1]) kr ?_
 intro ρ a hS hO hM
 replace h1 := h1.m0 hM
 clear hM
 refine rP T hS ⟨[(0, Sl a1 l_ c1)], []⟩ fun a hS => ?_
 refine rP T hS ⟨[(0, Sl a1 l_ c1), (3, Z ([] : List UInt8))], []⟩ fun a hS => ?_
 refine wcut (fun a w => ∃ (ρ : Nat → Nat) (χ : Nat → Nat) (out_101 : List UInt8), VC32_J1 Q out_101 ∧ St Tryd.f32.ntmps ⟨[(3, Z out_101)], []⟩ ρ a w χ ∧ Old w0 χ0 w χ) ?_ ?_
 ·refine rP T hS ⟨[(0, Sl a1 l_ c1), (3, Z ([] : List UInt8)), (4, I 0)], []⟩ fun a hS => ?_
  refine wblock ?_
  obtain ⟨I1, μ1, hm0, hm⟩ := hm
  refine wloop (σ := (List UInt8) × Int) (fun s a w => ∃ (ρ : Nat → Nat) (χ : Nat → Nat), I1 s.1 s.2 ∧ St Tryd.f32.ntmps ⟨[(0, Sl a1 l_ c1), (3, Z s.1), (4, I s.2)], []⟩ ρ a w χ ∧ Old w0 χ0 w χ ∧ RS tI w χ a1 l_ c1) (fun s => μ1 s.1 s.2) (⟨([] : List UInt8), 0⟩) ?_ ?_
  ·exact ⟨ρ, _, hm0, hS.sl _, hO, h1⟩
  ·rintro ⟨out_103, i_104⟩ a w113 ⟨ρ, χ112, hI, hS, hO, h102⟩
   replace hm := hm out_103 i_104 hI
   clear hI hm0
   refine wseq ?_
   refine rP T hS ⟨[(0, Sl a1 l_ c1), (3, Z out_103), (4, I i_104), (8, B (decide (i_104 < ((l_.length : Nat) : Int))))], []⟩ fun a hS => ?_
   refine wcond hS (b := decide (i_104 < ((l_.length : Nat) : Int))) kr (fun hb => ?_) (fun hb => ?_)
   ·replace hm := hm.1 hb
    refine wskip ?_
    refine wseq ?_
    refine wblock ?_
    refine region ?_
    refine oP T hS 3 ⟨[(0, Sl a1 l_ c1), (3, Z out_103), (4, I i_104), (11, Z out_103), (12, Sl a1 l_ c1), (13, I i_104)], []⟩ fun a hS => ?_
    obtain ⟨hq, hm⟩ := hm
    refine op1 (index (e := 3) (k := .i64) T hS kr kr kr kr h102 kr kr hq.1 hq.2 ?_)
    intro A105 a h106 hS
    clear hq
    refine op1 (load1 T hS kr kr kr h106 rfl kr ?_)
    intro v107 a hv hS
    cases hv
    obtain ⟨hq, hm⟩ := hm
    refine op1 (call hS kr kr hb31 kr (fun _ _ => rfl) (k31 _ _ (gi l_ i_104) hq) ?_)
    intro v108 a w109 χ110 hE hp hS
    clear hq
    replace hO := hO.mv hE rfl rfl
    replace h102 := h102.mv hE rfl
    replace h106 := h106.mv hE rfl
    clear hE
    obtain ⟨r111, hr⟩ : ∃ r, ref05_Digits (gi l_ i_104) = r := ⟨_, rfl⟩
    replace hm := hm r111 hr
    rw [hr] at hp
    clear hr
    subst hp
    obtain ⟨hq, hm⟩ := hm
    refine op1 (sadd (p := out_103) (q := r111) hS kr kr kr kr hq ?_)
    intro a hS
    clear hq
    obtain ⟨hq, hm⟩ := hm
    refine op1 (sadd (p := (out_103 ++ r111)) (q := ([32] : List UInt8)) hS kr kr kr kr hq ?_)
    intro a hS
    clear hq
    refine eP T hS ⟨[(0, Sl a1 l_ c1), (3, Z ((out_103 ++ r111) ++ ([32] : List UInt8))), (4, I i_104)], []⟩ fun a hS => ?_
    refine region (eP T hS ⟨[(0, Sl a1 l_ c1), (3, Z ((out_103 ++ r111) ++ ([32] : List UInt8))), (4, I (IntKind.i64.wrap (i_104 + 1)))], []⟩ fun a hS => ?_)
    exact ⟨⟨((out_103 ++ r111) ++ ([32] : List UInt8)), IntKind.i64.wrap (i_104 + 1)⟩, ⟨ρ, _, hm.1, hS.sl _, hO, h102⟩, hm.2⟩
   ·replace hm := hm.2 hb
    refine wexit (by rfl) ?_
    exact ⟨ρ, _, out_103, hm, hS.sl _, hO⟩
 ·rintro a w115 ⟨ρ, χ114, out_101, hm, hS, hO⟩
  unfold VC32_J1 at hm
  refine regO ?_
  refine oP T hS 1 ⟨[(19, Z out_101)], []⟩ fun a hS => ?_
  obtain ⟨hq, hm⟩ := hm
  refine op1 (sadd (p := out_101) (q := ([48] : List UInt8)) hS kr kr kr kr hq ?_)
  intro a hS
  clear hq
  refine eP T hS ⟨[(2, Z (out_101 ++ ([48] : List UInt8)))], []⟩ fun a hS => ?_
  refine wret ?_
  exact fin T hS hO (fun c => c) rfl (r := [.string (bs (out_101 ++ ([48] : List UInt8)))]) kr (fun χ' hM hC => ⟨(out_101 ++ ([48] : List UInt8)), hm, rfl⟩)
theorem C32 (k31 : S31) (v : ∀ (l_ : List Int), preRn l_ → VC32 l_ (fun r => r = ref10_numbers l_)) : S32 := by
 intro w χ l_ a1 c1   hp h1
 refine (W32 k31 w χ l_ a1 c1   _ (v l_ hp) h1).mono ?_
 rintro _ _ _ _ ⟨r, rfl, h⟩
 exact h
/-- replevin/replevinref10.Print -/
theorem W15 (k13 : S13) (k31 : S31) (k32 : S32) (w0 : World) (χ0 : Nat → Nat) (l_ : List Api_Step) (a1 : Option Addr) (c1 : Nat) (Q : (List UInt8) × Int → Prop) (hm : VC15 l_ Q) (h1 : RS tApi_Step w0 χ0 a1 l_ c1) :
  Ret Tryd.prog 15 #[.slice a1 l_.length c1] xnone w0 χ0 (fun w χ' v => ∃ r, Q r ∧ v = .tuple #[.string (bs r.1), .int .i64 r.2]) := by
 unfold VC15 at hm
 replace hm := hm (h1.sm kr)
 refine enter Tryd.func15 rfl (vals := [.slice a1 l_.length c1]) kr ?_
 intro ρ a hS hO hM
 replace h1 := h1.m0 hM
 clear hM
 refine rP T hS ⟨[(0, Sl a1 l_ c1)], []⟩ fun a hS => ?_
 refine regO ?_
 refine oP T hS 1 ⟨[(0, Sl a1 l_ c1), (9, Sl a1 l_ c1)], []⟩ fun a hS => ?_
 refine op1 (call hS kr kr hb13 kr (fun _ _ => rfl) (k13 _ _ l_ a1 c1 h1) ?_)
 intro v101 a w102 χ103 hE hp hS
 replace hO := hO.mv hE rfl rfl
 replace h1 := h1.mv hE rfl
 clear hE
 obtain ⟨r104, hr⟩ : ∃ r, ref10_Check l_ = r := ⟨_, rfl⟩
 replace hm := hm r104 hr
 rw [hr] at hp
 clear hr
 subst hp
 refine eP T hS ⟨[(0, Sl a1 l_ c1), (5, I r104.2)], []⟩ fun a hS => ?_
 refine wseq ?_
 refine rP T hS ⟨[(0, Sl a1 l_ c1), (5, I r104.2), (14, B (r104.2 != 0))], []⟩ fun a hS => ?_
 refine wcond hS (b := (r104.2 != 0)) kr (fun hb => ?_) (fun hb => ?_)
 ·replace hm := hm.1 hb
  refine rP T hS ⟨[(2, Z ([] : List UInt8)), (3, I r104.2)], []⟩ fun a hS => ?_
  refine wret ?_
  exact fin T hS hO (fun c => c) rfl (r := [.string (bs ([] : List UInt8)), .int .i64 r104.2]) kr (fun χ' hM hC => ⟨(([] : List UInt8), r104.2), hm, rfl⟩)
 ·replace hm := hm.2 hb
  refine wskip ?_
  refine rP T hS ⟨[(0, Sl a1 l_ c1), (6, Z ([] : List UInt8))], []⟩ fun a hS => ?_
  refine wcut (fun a w => ∃ (ρ : Nat → Nat) (χ : Nat → Nat) (out_105 : List UInt8), VC15_J1 Q out_105 ∧ St Tryd.f15.ntmps ⟨[(6, Z out_105)], []⟩ ρ a w χ ∧ Old w0 χ0 w χ) ?_ ?_
  ·refine rP T hS ⟨[(0, Sl a1 l_ c1), (6, Z ([] : List UInt8)), (7, I 0)], []⟩ fun a hS => ?_
   refine wblock ?_
   obtain ⟨I1, μ1, hm0, hm⟩ := hm
   refine wloop (σ := (List UInt8) × Int) (fun s a w => ∃ (ρ : Nat → Nat) (χ : Nat → Nat), I1 s.1 s.2 ∧ St Tryd.f15.ntmps ⟨[(0, Sl a1 l_ c1), (6, Z s.1), (7, I s.2)], []⟩ ρ a w χ ∧ Old w0 χ0 w χ ∧ RS tApi_Step w χ a1 l_ c1) (fun s => μ1 s.1 s.2) (⟨([] : List UInt8), 0⟩) ?_ ?_
   ·exact ⟨ρ, _, hm0, hS.sl _, hO, h1⟩
   ·rintro ⟨out_107, i_108⟩ a w152 ⟨ρ, χ151, hI, hS, hO, h106⟩
    replace hm := hm out_107 i_108 hI
    clear hI hm0
    refine wseq ?_
    refine rP T hS ⟨[(0, Sl a1 l_ c1), (6, Z out_107), (7, I i_108), (19, B (decide (i_108 < ((l_.length : Nat) : Int))))], []⟩ fun a hS => ?_
    refine wcond hS (b := decide (i_108 < ((l_.length : Nat) : Int))) kr (fun hb => ?_) (fun hb => ?_)
    ·replace hm := hm.1 hb
     refine wskip ?_
     refine wseq ?_
     refine wblock ?_
     refine regO ?_
     refine oP T hS 3 ⟨[(0, Sl a1 l_ c1), (6, Z out_107), (7, I i_108), (22, Z out_107), (23, Sl a1 l_ c1), (24, I i_108)], []⟩ fun a hS => ?_
     obtain ⟨hq, hm⟩ := hm
     refine op1 (index (e := 52) (k := .i64) T hS kr kr kr kr h106 kr kr hq.1 hq.2 ?_)
     intro A109 a h110 hS
     clear hq
     refine op1 (fieldA (off := 1) (fsz := 1) (ft := 3) (TF := tI) (y := (gi l_ i_108).Id) T hS kr kr kr h110 kr kr kr (fun cs h => Api_Step_f1 h) ?_)
     intro A111 a h112 hS
     refine op1 (load1 T hS kr kr kr h112 rfl kr ?_)
     intro v113 a hv hS
     cases hv
     obtain ⟨hq, hm⟩ := hm
     refine op1 (call hS kr kr hb31 kr (fun _ _ => rfl) (k31 _ _ ((gi l_ i_108).Id) hq) ?_)
     intro v114 a w115 χ116 hE hp hS
     clear hq
     replace hO := hO.mv hE rfl rfl
     replace h106 := h106.mv hE rfl
     replace h110 := h110.mv hE rfl
     replace h112 := h112.mv hE rfl
     clear hE
     obtain ⟨r117, hr⟩ : ∃ r, ref05_Digits ((gi l_ i_108).Id) = r := ⟨_, rfl⟩
     replace hm := hm r117 hr
     rw [hr] at hp
     clear hr
     subst hp
     obtain ⟨hq, hm⟩ := hm
     refine op1 (sadd (p := out_107) (q := r117) hS kr kr kr kr hq ?_)
     intro a hS
     clear hq
     obtain ⟨hq, hm⟩ := hm
     refine op1 (sadd (p := (out_107 ++ r117)) (q := ([32] : List UInt8)) hS kr kr kr kr hq ?_)
     intro a hS
     clear hq
     refine eP T hS ⟨[(0, Sl a1 l_ c1), (6, Z ((out_107 ++ r117) ++ ([32] : List UInt8))), (7, I i_108)], []⟩ fun a hS => ?_
     refine wcut (fun a w => ∃ (ρ : Nat → Nat) (χ : Nat → Nat) (out_119 : List UInt8), VC15_J2 l_ I1 μ1 out_107 i_108 out_119 ∧ St Tryd.f15.ntmps ⟨[(0, Sl a1 l_ c1), (6, Z out_119), (7, I i_108)], []⟩ ρ a w χ ∧ Old w0 χ0 w χ ∧ RS tApi_Step w χ a1 l_ c1) ?_ ?_
     ·refine regO ?_
      refine oP T hS 2 ⟨[(0, Sl a1 l_ c1), (6, Z ((out_107 ++ r117) ++ ([32] : List UInt8))), (7, I i_108), (31, Sl a1 l_ c1), (32, I i_108)], []⟩ fun a hS => ?_
      obtain ⟨hq, hm⟩ := hm
      refine op1 (index (e := 52) (k := .i64) T hS kr kr kr kr h106 kr kr hq.1 hq.2 ?_)
      intro A132 a h133 hS
      clear hq
      refine op1 (fieldA (off := 0) (fsz := 1) (ft := 3) (TF := tI) (y := (gi l_ i_108).Kind) T hS kr kr kr h133 kr kr kr (fun cs h => Api_Step_f0 h) ?_)
      intro A134 a h135 hS
      refine op1 (load1 T hS kr kr kr h135 rfl kr ?_)
      intro v136 a hv hS
      cases hv
      refine eP T hS ⟨[(0, Sl a1 l_ c1), (6, Z ((out_107 ++ r117) ++ ([32] : List UInt8))), (7, I i_108), (36, B (((gi l_ i_108).Kind) == 2))], []⟩ fun a hS => ?_
      refine wcond hS (b := (((gi l_ i_108).Kind) == 2)) kr (fun hb => ?_) (fun hb => ?_)
      ·replace hm := hm.1 hb
       refine region ?_
       refine oP T hS 1 ⟨[(0, Sl a1 l_ c1), (6, Z ((out_107 ++ r117) ++ ([32] : List UInt8))), (7, I i_108), (37, Z ((out_107 ++ r117) ++ ([32] : List UInt8)))], []⟩ fun a hS => ?_
       obtain ⟨hq, hm⟩ := hm
       refine op1 (sadd (p := ((out_107 ++ r117) ++ ([32] : List UInt8))) (q := ([100, 32] : List UInt8)) hS kr kr kr kr hq ?_)
       intro a hS
       clear hq
       refine eP T hS ⟨[(0, Sl a1 l_ c1), (6, Z (((out_107 ++ r117) ++ ([32] : List UInt8)) ++ ([100, 32] : List UInt8))), (7, I i_108)], []⟩ fun a hS => ?_
       exact ⟨ρ, _, (((out_107 ++ r117) ++ ([32] : List UInt8)) ++ ([100, 32] : List UInt8)), hm, hS.sl _, hO, h106⟩
      ·replace hm := hm.2 hb
       refine region ?_
       refine oP T hS 3 ⟨[(0, Sl a1 l_ c1), (6, Z ((out_107 ++ r117) ++ ([32] : List UInt8))), (7, I i_108), (39, Z ((out_107 ++ r117) ++ ([32] : List UInt8))), (40, Sl a1 l_ c1), (41, I i_108)], []⟩ fun a hS => ?_
       obtain ⟨hq, hm⟩ := hm
       refine op1 (index (e := 52) (k := .i64) T hS kr kr kr kr h106 kr kr hq.1 hq.2 ?_)
       intro A137 a h138 hS
       clear hq
       refine op1 (fieldA (off := 2) (fsz := 1) (ft := 31) (TF := (tSlice tI)) (y := (gi l_ i_108).Lits) T hS kr kr kr h138 kr kr kr (fun cs h => Api_Step_f2 h) ?_)
       intro A139 a h140 hS
       refine op1 (load1 T hS kr kr kr h140 rfl kr ?_)
       intro v141 a hv hS
       obtain ⟨a142, c143, hv, h144⟩ := hv
       cases hv
       replace hm := hm (h144.sm kr)
       obtain ⟨hq, hm⟩ := hm
       refine op1 (call hS kr kr hb32 kr (fun _ _ => rfl) (k32 _ _ ((gi l_ i_108).Lits) a142 c143 hq h144) ?_)
       intro v145 a w146 χ147 hE hp hS
       clear hq
       replace hO := hO.mv hE rfl rfl
       replace h106 := h106.mv hE rfl
       replace h138 := h138.mv hE rfl
       replace h140 := h140.mv hE rfl
       replace h144 := h144.mv hE rfl
       clear hE
       obtain ⟨r148, hr⟩ : ∃ r, ref10_numbers ((gi l_ i_108).Lits) = r := ⟨_, rfl⟩
       replace hm := hm r148 hr
       rw [hr] at hp
       clear hr
       subst hp
       obtain ⟨hq, hm⟩ := hm
       refine op1 (sadd (p := ((out_107 ++ r117) ++ ([32] : List UInt8))) (q := r148) hS kr kr kr kr hq ?_)
       intro a hS
       clear hq
       obtain ⟨hq, hm⟩ := hm
       refine op1 (sadd (p := (((out_107 ++ r117) ++ ([32] : List UInt8)) ++ r148)) (q := ([32] : List UInt8)) hS kr kr kr kr hq ?_)
       intro a hS
       clear hq
       refine eP T hS ⟨[(0, Sl a1 l_ c1), (6, Z ((((out_107 ++ r117) ++ ([32] : List UInt8)) ++ r148) ++ ([32] : List UInt8))), (7, I i_108)], []⟩ fun a hS => ?_
       exact ⟨ρ, _, ((((out_107 ++ r117) ++ ([32] : List UInt8)) ++ r148) ++ ([32] : List UInt8)), hm, hS.sl _, hO, h106⟩
     ·rintro a w150 ⟨ρ, χ149, out_119, hm, hS, hO, h118⟩
      unfold VC15_J2 at hm
      refine region ?_
      refine oP T hS 3 ⟨[(0, Sl a1 l_ c1), (6, Z out_119), (7, I i_108), (48, Z out_119), (49, Sl a1 l_ c1), (50, I i_108)], []⟩ fun a hS => ?_
      obtain ⟨hq, hm⟩ := hm
      refine op1 (index (e := 52) (k := .i64) T hS kr kr kr kr h118 kr kr hq.1 hq.2 ?_)
      intro A120 a h121 hS
      clear hq
      refine op1 (fieldA (off := 3) (fsz := 1) (ft := 31) (TF := (tSlice tI)) (y := (gi l_ i_108).Hints) T hS kr kr kr h121 kr kr kr (fun cs h => Api_Step_f3 h) ?_)
      intro A122 a h123 hS
      refine op1 (load1 T hS kr kr kr h123 rfl kr ?_)
      intro v124 a hv hS
      obtain ⟨a125, c126, hv, h127⟩ := hv
      cases hv
      replace hm := hm (h127.sm kr)
      obtain ⟨hq, hm⟩ := hm
      refine op1 (call hS kr kr hb32 kr (fun _ _ => rfl) (k32 _ _ ((gi l_ i_108).Hints) a125 c126 hq h127) ?_)
      intro v128 a w129 χ130 hE hp hS
      clear hq
      replace hO := hO.mv hE rfl rfl
      replace h118 := h118.mv hE rfl
      replace h121 := h121.mv hE rfl
      replace h123 := h123.mv hE rfl
      replace h127 := h127.mv hE rfl
      clear hE
      obtain ⟨r131, hr⟩ : ∃ r, ref10_numbers ((gi l_ i_108).Hints) = r := ⟨_, rfl⟩
      replace hm := hm r131 hr
      rw [hr] at hp
      clear hr
      subst hp
      obtain ⟨hq, hm⟩ := hm
      refine op1 (sadd (p := out_119) (q := r131) hS kr kr kr kr hq ?_)
      intro a hS
      clear hq
      obtain ⟨hq, hm⟩ := hm
      refine op1 (sadd (p := (out_119 ++ r131)) (q := ([10] : List UInt8)) hS kr kr kr kr hq ?_)
      intro a hS
      clear hq
      refine eP T hS ⟨[(0, Sl a1 l_ c1), (6, Z ((out_119 ++ r131) ++ ([10] : List UInt8))), (7, I i_108)], []⟩ fun a hS => ?_
      refine region (eP T hS ⟨[(0, Sl a1 l_ c1), (6, Z ((out_119 ++ r131) ++ ([10] : List UInt8))), (7, I (IntKind.i64.wrap (i_108 + 1)))], []⟩ fun a hS => ?_)
      exact ⟨⟨((out_119 ++ r131) ++ ([10] : List UInt8)), IntKind.i64.wrap (i_108 + 1)⟩, ⟨ρ, _, hm.1, hS.sl _, hO, h118⟩, hm.2⟩
    ·replace hm := hm.2 hb
     refine wexit (by rfl) ?_
     exact ⟨ρ, _, out_107, hm, hS.sl _, hO⟩
  ·rintro a w154 ⟨ρ, χ153, out_105, hm, hS, hO⟩
   unfold VC15_J1 at hm
   refine wseq ?_
   refine rP T hS ⟨[(6, Z out_105), (59, B (decide (((out_105.length : Nat) : Int) > 1000000)))], []⟩ fun a hS => ?_
   refine wcond hS (b := decide (((out_105.length : Nat) : Int) > 1000000)) kr (fun hb => ?_) (fun hb => ?_)
   ·replace hm := hm.1 hb
    refine rP T hS ⟨[(2, Z ([] : List UInt8)), (3, I 3)], []⟩ fun a hS => ?_
    refine wret ?_
    exact fin T hS hO (fun c => c) rfl (r := [.string (bs ([] : List UInt8)), .int .i64 3]) kr (fun χ' hM hC => ⟨(([] : List UInt8), 3), hm, rfl⟩)
   ·replace hm := hm.2 hb
    refine wskip ?_
    refine rP T hS ⟨[(2, Z out_105), (3, I 0)], []⟩ fun a hS => ?_
    refine wret ?_
    exact fin T hS hO (fun c => c) rfl (r := [.string (bs out_105), .int .i64 0]) kr (fun χ' hM hC => ⟨(out_105, 0), hm, rfl⟩)
theorem C15 (k13 : S13) (k31 : S31) (k32 : S32) (v : ∀ (l_ : List Api_Step), VC15 l_ (fun r => r = ref10_Print l_)) : S15 := by
 intro w χ l_ a1 c1   h1
 refine (W15 k13 k31 k32 w χ l_ a1 c1   _ (v l_) h1).mono ?_
 rintro _ _ _ _ ⟨r, rfl, h⟩
 exact h
/-- replevin/replevinref10.Split -/
theorem W17 (w0 : World) (χ0 : Nat → Nat) (h_ : List Int) (a1 : Option Addr) (c1 : Nat) (Q : (List Int) × (List (List Int)) → Prop) (hm : VC17 h_ Q) (h1 : RS tI w0 χ0 a1 h_ c1) :
  Ret Tryd.prog 17 #[.slice a1 h_.length c1] xnone w0 χ0 (fun w χ' v => ∃ r, Q r ∧ ∃ (ra1 : Option Addr) (rc1 : Nat) (ra2 : Option Addr) (rc2 : Nat), v = .tuple #[.slice ra1 r.1.length rc1, .slice ra2 r.2.length rc2] ∧ RS tI w χ' ra1 r.1 rc1 ∧ RS (tSlice tI) w χ' ra2 r.2 rc2) := by
 unfold VC17 at hm
 replace hm := hm (h1.sm kr)
 refine enter Tryd.func17 rfl (vals := [.slice a1 h_.length c1]) kr ?_
 intro ρ a hS hO hM
 replace h1 := h1.m0 hM
 clear hM
 refine rP T hS ⟨[(0, Sl a1 h_ c1)], []⟩ fun a hS => ?_
 refine rP T hS ⟨[(0, Sl a1 h_ c1), (4, I 0)], []⟩ fun a hS => ?_
 refine wcut (fun a w => ∃ (ρ : Nat → Nat) (χ : Nat → Nat) (i_102 : Int), VC17_J1 h_ Q i_102 ∧ St Tryd.f17.ntmps ⟨[(0, Sl a1 h_ c1), (4, I i_102)], []⟩ ρ a w χ ∧ Old w0 χ0 w χ ∧ RS tI w χ a1 h_ c1) ?_ ?_
 ·refine wblock ?_
  obtain ⟨I3, μ3, hm0, hm⟩ := hm
  refine wloop (σ := Int) (fun s a w => ∃ (ρ : Nat → Nat) (χ : Nat → Nat), I3 s ∧ St Tryd.f17.ntmps ⟨[(0, Sl a1 h_ c1), (4, I s)], []⟩ ρ a w χ ∧ Old w0 χ0 w χ ∧ RS tI w χ a1 h_ c1) (fun s => μ3 s) (0) ?_ ?_
  ·exact ⟨ρ, _, hm0, hS.sl _, hO, h1⟩
  ·rintro i_173 a w182 ⟨ρ, χ181, hI, hS, hO, h172⟩
   replace hm := hm i_173 hI
   clear hI hm0
   refine wseq ?_
   refine wcut (fun a w => ∃ (ρ : Nat → Nat) (χ : Nat → Nat) (x_175 : Bool), VC17_J6 h_ Q I3 μ3 i_173 x_175 ∧ St Tryd.f17.ntmps ⟨[(0, Sl a1 h_ c1), (4, I i_173), (18, B x_175)], []⟩ ρ a w χ ∧ Old w0 χ0 w χ ∧ RS tI w χ a1 h_ c1) ?_ ?_
   ·refine region ?_
    refine oP T hS 5 ⟨[(0, Sl a1 h_ c1), (4, I i_173), (12, B (decide (i_173 < ((h_.length : Nat) : Int))))], []⟩ fun a hS => ?_
    rcases Bool.eq_false_or_eq_true (decide (i_173 < ((h_.length : Nat) : Int))) with hb | hb
    ·replace hS := hS.lit (t := 12) kr hb
     replace hm := hm.1 hb
     refine oP T hS 2 ⟨[(0, Sl a1 h_ c1), (4, I i_173), (12, B true), (13, Sl a1 h_ c1), (14, I i_173)], []⟩ fun a hS => ?_
     obtain ⟨hq, hm⟩ := hm
     refine op1 (index (e := 3) (k := .i64) T hS kr kr kr kr h172 kr kr hq.1 hq.2 ?_)
     intro A176 a h177 hS
     clear hq
     refine op1 (load1 T hS kr kr kr h177 rfl kr ?_)
     intro v178 a hv hS
     cases hv
     refine eP T hS ⟨[(0, Sl a1 h_ c1), (4, I i_173), (13, Sl a1 h_ c1), (14, I i_173), (15, V (.pointer (some A176))), (16, I (gi h_ i_173)), (17, B (decide ((gi h_ i_173) ≥ 0))), (18, B (decide ((gi h_ i_173) ≥ 0)))], []⟩ fun a hS => ?_
     exact ⟨ρ, _, decide ((gi h_ i_173) ≥ 0), hm, hS.sl _, hO, h172⟩
    ·replace hS := hS.lit (t := 12) kr hb
     replace hm := hm.2 hb
     refine eP T hS ⟨[(0, Sl a1 h_ c1), (4, I i_173), (18, B false)], []⟩ fun a hS => ?_
     exact ⟨ρ, _, false, hm, hS.sl _, hO, h172⟩
   ·rintro a w180 ⟨ρ, χ179, x_175, hm, hS, hO, h174⟩
    unfold VC17_J6 at hm
    refine wcond hS (b := x_175) kr (fun hb => ?_) (fun hb => ?_)
    ·replace hm := hm.1 hb
     refine wskip ?_
     refine wblock ?_
     refine region (eP T hS ⟨[(0, Sl a1 h_ c1), (4, I (IntKind.i64.wrap (i_173 + 1)))], []⟩ fun a hS => ?_)
     exact ⟨IntKind.i64.wrap (i_173 + 1), ⟨ρ, _, hm.1, hS.sl _, hO, h174⟩, hm.2⟩
    ·replace hm := hm.2 hb
     refine wexit (by rfl) ?_
     exact ⟨ρ, _, i_173, hm, hS.sl _, hO, h174⟩
 ·rintro a w184 ⟨ρ, χ183, i_102, hm, hS, hO, h101⟩
  unfold VC17_J1 at hm
  refine rP T hS ⟨[(0, Sl a1 h_ c1), (4, I i_102), (5, V (.slice none 0 0))], []⟩ fun a hS => ?_
  refine wcut (fun a w => ∃ (ρ : Nat → Nat) (χ : Nat → Nat) (rows_104 : List (List Int)) (a105 : Option Addr) (c106 : Nat), VC17_J2 h_ Q i_102 rows_104 ∧ St Tryd.f17.ntmps ⟨[(0, Sl a1 h_ c1), (4, I i_102), (5, Sl a105 rows_104 c106)], []⟩ ρ a w χ ∧ Old w0 χ0 w χ ∧ RS tI w χ a1 h_ c1 ∧ OS (tSlice tI) 31 w χ 1004 a105 rows_104 c106) ?_ ?_
  ·refine rP T hS ⟨[(0, Sl a1 h_ c1), (4, I i_102), (5, V (.slice none 0 0)), (6, I i_102)], []⟩ fun a hS => ?_
   refine wblock ?_
   obtain ⟨I1, μ1, hm0, hm⟩ := hm
   refine wloop (σ := (List (List Int)) × Int) (fun s a w => ∃ (ρ : Nat → Nat) (χ : Nat → Nat) (a115 : Option Addr) (c116 : Nat), I1 s.1 s.2 ∧ St Tryd.f17.ntmps ⟨[(0, Sl a1 h_ c1), (4, I i_102), (5, Sl a115 s.1 c116), (6, I s.2)], []⟩ ρ a w χ ∧ Old w0 χ0 w χ ∧ RS tI w χ a1 h_ c1 ∧ OS (tSlice tI) 31 w χ 1004 a115 s.1 c116) (fun s => μ1 s.1 s.2) (⟨[], i_102⟩) ?_ ?_
   ·exact ⟨ρ, _, none, 0, hm0, hS.sl _, hO, h101, (OS.nil _ _ _ _ _)⟩
   ·rintro ⟨rows_114, k_118⟩ a w169 ⟨ρ, χ168, a115, c116, hI, hS, hO, h113, h117⟩
    replace hm := hm rows_114 k_118 hI
    clear hI hm0
    refine wseq ?_
    refine rP T hS ⟨[(0, Sl a1 h_ c1), (4, I i_102), (5, Sl a115 rows_114 c116), (6, I k_118), (25, B (decide (k_118 < ((h_.length : Nat) : Int))))], []⟩ fun a hS => ?_
    refine wcond hS (b := decide (k_118 < ((h_.length : Nat) : Int))) kr (fun hb => ?_) (fun hb => ?_)
    ·replace hm := hm.1 hb
     refine wskip ?_
     refine wcut (fun a w => ∃ (ρ : Nat → Nat) (χ : Nat → Nat) (rows_120 : List (List Int)) (a121 : Option Addr) (c122 : Nat), VC17_J3 I1 μ1 rows_114 k_118 rows_120 ∧ St Tryd.f17.ntmps ⟨[(0, Sl a1 h_ c1), (4, I i_102), (5, Sl a121 rows_120 c122), (6, I k_118)], []⟩ ρ a w χ ∧ Old w0 χ0 w χ ∧ RS tI w χ a1 h_ c1 ∧ OS (tSlice tI) 31 w χ 1004 a121 rows_120 c122) ?_ ?_
     ·refine wblock ?_
      refine regO ?_
      refine oP T hS 2 ⟨[(0, Sl a1 h_ c1), (4, I i_102), (5, Sl a115 rows_114 c116), (6, I k_118), (28, Sl a1 h_ c1), (29, I k_118)], []⟩ fun a hS => ?_
      obtain ⟨hq, hm⟩ := hm
      refine op1 (index (e := 3) (k := .i64) T hS kr kr kr kr h113 kr kr hq.1 hq.2 ?_)
      intro A124 a h125 hS
      clear hq
      refine op1 (load1 T hS kr kr kr h125 rfl kr ?_)
      intro v126 a hv hS
      cases hv
      refine eP T hS ⟨[(0, Sl a1 h_ c1), (4, I i_102), (5, Sl a115 rows_114 c116), (6, I k_118), (32, B (decide ((gi h_ k_118) < 0)))], []⟩ fun a hS => ?_
      refine wcond hS (b := decide ((gi h_ k_118) < 0)) kr (fun hb => ?_) (fun hb => ?_)
      ·replace hm := hm.1 hb
       refine rP T hS ⟨[(0, Sl a1 h_ c1), (4, I i_102), (5, Sl a115 rows_114 c116), (6, I k_118), (7, I (IntKind.i64.wrap (k_118 + 1)))], []⟩ fun a hS => ?_
       refine wcut (fun a w => ∃ (ρ : Nat → Nat) (χ : Nat → Nat) (rows_128 : List (List Int)) (j_132 : Int) (a129 : Option Addr) (c130 : Nat), VC17_J4 h_ I1 μ1 rows_114 k_118 rows_128 j_132 ∧ St Tryd.f17.ntmps ⟨[(0, Sl a1 h_ c1), (4, I i_102), (5, Sl a129 rows_128 c130), (6, I k_118), (7, I j_132)], []⟩ ρ a w χ ∧ Old w0 χ0 w χ ∧ RS tI w χ a1 h_ c1 ∧ OS (tSlice tI) 31 w χ 1004 a129 rows_128 c130) ?_ ?_
       ·refine wblock ?_
        obtain ⟨I2, μ2, hm0, hm⟩ := hm
        refine wloop (σ := (List (List Int)) × Int) (fun s a w => ∃ (ρ : Nat → Nat) (χ : Nat → Nat) (a147 : Option Addr) (c148 : Nat), I2 s.1 s.2 ∧ St Tryd.f17.ntmps ⟨[(0, Sl a1 h_ c1), (4, I i_102), (5, Sl a147 s.1 c148), (6, I k_118), (7, I s.2)], []⟩ ρ a w χ ∧ Old w0 χ0 w χ ∧ RS tI w χ a1 h_ c1 ∧ OS (tSlice tI) 31 w χ 1004 a147 s.1 c148) (fun s => μ2 s.1 s.2) (⟨rows_114, IntKind.i64.wrap (k_118 + 1)⟩) ?_ ?_
        ·exact ⟨ρ, _, a115, c116, hm0, hS.sl _, hO, h113, h117⟩
        ·rintro ⟨rows_146, j_150⟩ a w163 ⟨ρ, χ162, a147, c148, hI, hS, hO, h145, h149⟩
         replace hm := hm rows_146 j_150 hI
         clear hI hm0
         refine wseq ?_
         refine wcut (fun a w => ∃ (ρ : Nat → Nat) (χ : Nat → Nat) (rows_152 : List (List Int)) (x_156 : Bool) (a153 : Option Addr) (c154 : Nat), VC17_J5 h_ I1 μ1 rows_114 k_118 I2 μ2 rows_146 j_150 rows_152 x_156 ∧ St Tryd.f17.ntmps ⟨[(0, Sl a1 h_ c1), (4, I i_102), (5, Sl a153 rows_152 c154), (6, I k_118), (7, I j_150), (45, B x_156)], []⟩ ρ a w χ ∧ Old w0 χ0 w χ ∧ RS tI w χ a1 h_ c1 ∧ OS (tSlice tI) 31 w χ 1004 a153 rows_152 c154) ?_ ?_
         ·refine region ?_
          refine oP T hS 5 ⟨[(0, Sl a1 h_ c1), (4, I i_102), (5, Sl a147 rows_146 c148), (6, I k_118), (7, I j_150), (39, B (decide (j_150 < ((h_.length : Nat) : Int))))], []⟩ fun a hS => ?_
          rcases Bool.eq_false_or_eq_true (decide (j_150 < ((h_.length : Nat) : Int))) with hb | hb
          ·replace hS := hS.lit (t := 39) kr hb
           replace hm := hm.1 hb
           refine oP T hS 2 ⟨[(0, Sl a1 h_ c1), (4, I i_102), (5, Sl a147 rows_146 c148), (6, I k_118), (7, I j_150), (39, B true), (40, Sl a1 h_ c1), (41, I j_150)], []⟩ fun a hS => ?_
           obtain ⟨hq, hm⟩ := hm
           refine op1 (index (e := 3) (k := .i64) T hS kr kr kr kr h145 kr kr hq.1 hq.2 ?_)
           intro A157 a h158 hS
           clear hq
           refine op1 (load1 T hS kr kr kr h158 rfl kr ?_)
           intro v159 a hv hS
           cases hv
           refine eP T hS ⟨[(0, Sl a1 h_ c1), (4, I i_102), (5, Sl a147 rows_146 c148), (6, I k_118), (7, I j_150), (40, Sl a1 h_ c1), (41, I j_150), (42, V (.pointer (some A157))), (43, I (gi h_ j_150)), (44, B (decide ((gi h_ j_150) ≥ 0))), (45, B (decide ((gi h_ j_150) ≥ 0)))], []⟩ fun a hS => ?_
           exact ⟨ρ, _, rows_146, decide ((gi h_ j_150) ≥ 0), a147, c148, hm, hS.sl _, hO, h145, h149⟩
          ·replace hS := hS.lit (t := 39) kr hb
           replace hm := hm.2 hb
           refine eP T hS ⟨[(0, Sl a1 h_ c1), (4, I i_102), (5, Sl a147 rows_146 c148), (6, I k_118), (7, I j_150), (45, B false)], []⟩ fun a hS => ?_
           exact ⟨ρ, _, rows_146, false, a147, c148, hm, hS.sl _, hO, h145, h149⟩
         ·rintro a w161 ⟨ρ, χ160, rows_152, x_156, a153, c154, hm, hS, hO, h151, h155⟩
          unfold VC17_J5 at hm
          refine wcond hS (b := x_156) kr (fun hb => ?_) (fun hb => ?_)
          ·replace hm := hm.1 hb
           refine wskip ?_
           refine wblock ?_
           refine region (eP T hS ⟨[(0, Sl a1 h_ c1), (4, I i_102), (5, Sl a153 rows_152 c154), (6, I k_118), (7, I (IntKind.i64.wrap (j_150 + 1)))], []⟩ fun a hS => ?_)
           exact ⟨⟨rows_152, IntKind.i64.wrap (j_150 + 1)⟩, ⟨ρ, _, a153, c154, hm.1, hS.sl _, hO, h151, h155⟩, hm.2⟩
          ·replace hm := hm.2 hb
           refine wexit (by rfl) ?_
           exact ⟨ρ, _, rows_152, j_150, a153, c154, hm, hS.sl _, hO, h151, h155⟩
       ·rintro a w165 ⟨ρ, χ164, rows_128, j_132, a129, c130, hm, hS, hO, h127, h131⟩
        unfold VC17_J4 at hm
        refine region ?_
        refine oP T hS 4 ⟨[(0, Sl a1 h_ c1), (4, I i_102), (5, Sl a129 rows_128 c130), (6, I k_118), (48, Sl a129 rows_128 c130), (49, Sl a1 h_ c1), (50, I k_118), (51, I j_132)], []⟩ fun a hS => ?_
        obtain ⟨hq, hm⟩ := hm
        refine op1 (slice2 (E := 3) (kl := .i64) (kh := .i64) T hS kr kr kr kr kr h127 kr kr hq.1 hq.2.1 hq.2.2 ?_)
        intro a133 c134 a h135 hS
        clear hq
        refine op1 (lit (E := 31) (col := 0) (T := (tSlice tI)) (vals := [.slice a133 ((h_.take j_132.toNat).drop k_118.toNat).length c134]) (ys := [(h_.take j_132.toNat).drop k_118.toNat]) T hS kr kr kr kr (by exact ⟨⟨a133, c134, rfl, h135⟩, trivial⟩) rfl kr kr kr kr ?_)
        intro b136 a w137 χ138 hE h139 hN hS
        clear hN
        replace hO := hO.mv hE rfl rfl
        replace h127 := h127.mv hE rfl
        replace h131 := h131.mv hE rfl rfl
        replace h135 := h135.mv hE rfl
        clear hE
        replace h139 := h139.rs0
        obtain ⟨hq, hm⟩ := hm
        obtain ⟨news, hN⟩ := h139.src
        refine op1 (append (E := 31) (T := (tSlice tI)) (col := 1004) (xs := rows_128) T hS kr kr kr kr h131 hN kr kr kr kr hq ?_)
        intro a143 c144 a w140 χ141 hE h142 hS
        clear hq hN
        clear h131
        replace hO := hO.mv hE rfl rfl
        replace h127 := h127.mv hE rfl
        replace h135 := h135.mv hE rfl
        replace h139 := h139.mv hE rfl
        clear hE
        refine eP T hS ⟨[(0, Sl a1 h_ c1), (4, I i_102), (5, Sl a143 (rows_128 ++ [(h_.take j_132.toNat).drop k_118.toNat]) c144), (6, I k_118)], []⟩ fun a hS => ?_
        exact ⟨ρ, _, rows_128 ++ [(h_.take j_132.toNat).drop k_118.toNat], a143, c144, hm, hS.sl _, hO, h127, h142⟩
      ·replace hm := hm.2 hb
       refine wskip ?_
       exact ⟨ρ, _, rows_114, a115, c116, hm, hS.sl _, hO, h113, h117⟩
     ·rintro a w167 ⟨ρ, χ166, rows_120, a121, c122, hm, hS, hO, h119, h123⟩
      unfold VC17_J3 at hm
      refine region (eP T hS ⟨[(0, Sl a1 h_ c1), (4, I i_102), (5, Sl a121 rows_120 c122), (6, I (IntKind.i64.wrap (k_118 + 1)))], []⟩ fun a hS => ?_)
      exact ⟨⟨rows_120, IntKind.i64.wrap (k_118 + 1)⟩, ⟨ρ, _, a121, c122, hm.1, hS.sl _, hO, h119, h123⟩, hm.2⟩
    ·replace hm := hm.2 hb
     refine wexit (by rfl) ?_
     exact ⟨ρ, _, rows_114, a115, c116, hm, hS.sl _, hO, h113, h117⟩
  ·rintro a w171 ⟨ρ, χ170, rows_104, a105, c106, hm, hS, hO, h103, h107⟩
   unfold VC17_J2 at hm
   refine regO ?_
   refine oP T hS 2 ⟨[(5, Sl a105 rows_104 c106), (55, Sl a1 h_ c1), (56, I i_102)], []⟩ fun a hS => ?_
   obtain ⟨hq, hm⟩ := hm
   refine op1 (slice0 (E := 3) (kh := .i64) T hS kr kr kr kr h103 kr kr hq.1 hq.2 ?_)
   intro a108 c109 a h110 hS
   clear hq
   refine eP T hS ⟨[(2, Sl a108 (h_.take i_102.toNat) c109), (3, Sl a105 rows_104 c106)], []⟩ fun a hS => ?_
   refine wret ?_
   obtain ⟨χ111, hE, hF⟩ := h107.freeze (by decide)
   replace hS := hS.ev hE (xone_box kr)
   replace hO := hO.mv hE rfl rfl
   replace h110 := h110.mv hE rfl
   have h112 := hF; clear hE hF
   exact fin T hS hO (fun c => c) rfl (r := [.slice a108 (h_.take i_102.toNat).length c109, .slice a105 rows_104.length c106]) kr (fun χ' hM hC => ⟨(h_.take i_102.toNat, rows_104), hm, a108, c109, a105, c106, rfl, h110.m0 hM, h112.m0 hM⟩)
theorem C17 (v : ∀ (h_ : List Int), preSp h_ → VC17 h_ (fun r => r = ref10_Split h_)) : S17 := by
 intro w χ h_ a1 c1   hp h1
 refine (W17 w χ h_ a1 c1   _ (v h_ hp) h1).mono ?_
 rintro _ _ _ _ ⟨r, rfl, h⟩
 exact h
/-- replevin/replevinlaw10.ProofPrints -/
theorem W4 (k10 : S10) (k11 : S11) (k12 : S12) (k13 : S13) (k14 : S14) (k15 : S15) (k16 : S16) (k17 : S17) (k18 : S18) (k19 : S19) (k20 : S20) (k7 : S7) (w0 : World) (χ0 : Nat → Nat) (l_ : List Api_Step) (m_ : List Api_Step) (h_ : List Int) (a1 : Option Addr) (c1 : Nat) (a2 : Option Addr) (c2 : Nat) (a3 : Option Addr) (c3 : Nat) (Q : Bool → Prop) (hm : VC4 l_ m_ h_ Q) (h1 : RS tApi_Step w0 χ0 a1 l_ c1) (h2 : RS tApi_Step w0 χ0 a2 m_ c2) (h3 : RS tI w0 χ0 a3 h_ c3) (hAmb : Amb w0 χ0) :
  Ret Tryd.prog 4 #[.slice a1 l_.length c1, .slice a2 m_.length c2, .slice a3 h_.length c3] xnone w0 χ0 (fun w χ' v => ∃ r, Q r ∧ v = .bool r) := by
 unfold VC4 at hm
 replace hm := hm (h1.sm kr)
 replace hm := hm (h2.sm kr)
 replace hm := hm (h3.sm kr)
 refine enter Tryd.func4 rfl (vals := [.slice a1 l_.length c1, .slice a2 m_.length c2, .slice a3 h_.length c3]) kr ?_
 intro ρ a hS hO hM
 replace h1 := h1.m0 hM
 replace h2 := h2.m0 hM
 replace h3 := h3.m0 hM
 replace hAmb := hAmb.m0 hM
 clear hM
 refine rP T hS ⟨[(0, Sl a1 l_ c1), (1, Sl a2 m_ c2), (2, Sl a3 h_ c3)], []⟩ fun a hS => ?_
 refine wseq ?_
 refine wcut (fun a w => ∃ (ρ : Nat → Nat) (χ : Nat → Nat) (x_104 : Bool), VC4_J1 l_ m_ h_ Q x_104 ∧ St Tryd.f4.ntmps ⟨[(0, Sl a1 l_ c1), (1, Sl a2 m_ c2), (2, Sl a3 h_ c3), (31, B x_104)], []⟩ ρ a w χ ∧ Old w0 χ0 w χ ∧ RS tApi_Step w χ a1 l_ c1 ∧ RS tApi_Step w χ a2 m_ c2 ∧ RS tI w χ a3 h_ c3 ∧ Amb w χ) ?_ ?_
 ·refine region ?_
  refine oP T hS 1 ⟨[(0, Sl a1 l_ c1), (1, Sl a2 m_ c2), (2, Sl a3 h_ c3), (19, Sl a1 l_ c1)], []⟩ fun a hS => ?_
  refine op1 (call hS kr kr hb11 kr (fun _ _ => rfl) (k11 _ _ l_ a1 c1 h1) ?_)
  intro v165 a w166 χ167 hE hp hS
  replace hO := hO.mv hE rfl rfl
  replace h1 := h1.mv hE rfl
  replace h2 := h2.mv hE rfl
  replace h3 := h3.mv hE rfl
  replace hAmb := hAmb.mv hE rfl
  clear hE
  obtain ⟨r168, hr⟩ : ∃ r, law10_Few l_ = r := ⟨_, rfl⟩
  replace hm := hm r168 hr
  rw [hr] at hp
  clear hr
  subst hp
  refine oP T hS 2 ⟨[(0, Sl a1 l_ c1), (1, Sl a2 m_ c2), (2, Sl a3 h_ c3), (22, B (!r168))], []⟩ fun a hS => ?_
  rcases Bool.eq_false_or_eq_true (!r168) with hb | hb
  ·replace hS := hS.lit (t := 22) kr hb
   replace hm := hm.1 hb
   refine eP T hS ⟨[(0, Sl a1 l_ c1), (1, Sl a2 m_ c2), (2, Sl a3 h_ c3), (31, B true)], []⟩ fun a hS => ?_
   exact ⟨ρ, _, true, hm, hS.sl _, hO, h1, h2, h3, hAmb⟩
  ·replace hS := hS.lit (t := 22) kr hb
   replace hm := hm.2 hb
   refine oP T hS 1 ⟨[(0, Sl a1 l_ c1), (1, Sl a2 m_ c2), (2, Sl a3 h_ c3), (22, B false), (23, Sl a2 m_ c2)], []⟩ fun a hS => ?_
   refine op1 (call hS kr kr hb11 kr (fun _ _ => rfl) (k11 _ _ m_ a2 c2 h2) ?_)
   intro v169 a w170 χ171 hE hp hS
   replace hO := hO.mv hE rfl rfl
   replace h1 := h1.mv hE rfl
   replace h2 := h2.mv hE rfl
   replace h3 := h3.mv hE rfl
   replace hAmb := hAmb.mv hE rfl
   clear hE
   obtain ⟨r172, hr⟩ : ∃ r, law10_Few m_ = r := ⟨_, rfl⟩
   replace hm := hm r172 hr
   rw [hr] at hp
   clear hr
   subst hp
   refine eP T hS ⟨[(0, Sl a1 l_ c1), (1, Sl a2 m_ c2), (2, Sl a3 h_ c3), (31, B ((!r172) || (decide (((h_.length : Nat) : Int) > 200))))], []⟩ (sp := [27]) fun a hS => ?_
   exact ⟨ρ, _, ((!r172) || (decide (((h_.length : Nat) : Int) > 200))), hm, hS.sl _, hO, h1, h2, h3, hAmb⟩
 ·rintro a w174 ⟨ρ, χ173, x_104, hm, hS, hO, h101, h102, h103, hAmb⟩
  unfold VC4_J1 at hm
  refine wcond hS (b := x_104) kr (fun hb => ?_) (fun hb => ?_)
  ·replace hm := hm.1 hb
   refine regO ?_
   refine op1 (call hS kr kr hb7 kr (fun _ _ => rfl) (k7 _ _ hAmb) ?_)
   intro v105 a w106 χ107 hE hp hS
   replace hO := hO.mv hE rfl rfl
   replace h101 := h101.mv hE rfl
   replace h102 := h102.mv hE rfl
   replace h103 := h103.mv hE rfl
   replace hAmb := hAmb.mv hE rfl
   clear hE
   obtain ⟨r108, hr⟩ : ∃ r, law10_awake = r := ⟨_, rfl⟩
   replace hm := hm r108 hr
   rw [hr] at hp
   clear hr
   subst hp
   refine eP T hS ⟨[(6, B r108)], []⟩ fun a hS => ?_
   refine wret ?_
   exact fin T hS hO (fun c => c) rfl (r := [.bool r108]) kr (fun χ' hM hC => ⟨r108, hm, rfl⟩)
  ·replace hm := hm.2 hb
   refine wskip ?_
   refine regO ?_
   refine oP T hS 1 ⟨[(0, Sl a1 l_ c1), (1, Sl a2 m_ c2), (2, Sl a3 h_ c3), (34, Sl a1 l_ c1)], []⟩ fun a hS => ?_
   refine op1 (call hS kr kr hb12 kr (fun _ _ => rfl) (k12 _ _ l_ a1 c1 h101) ?_)
   intro v109 a w110 χ111 hE hp hS
   replace hO := hO.mv hE rfl rfl
   replace h101 := h101.mv hE rfl
   replace h102 := h102.mv hE rfl
   replace h103 := h103.mv hE rfl
   replace hAmb := hAmb.mv hE rfl
   clear hE
   obtain ⟨r112, hr⟩ : ∃ r, proof_Check l_ = r := ⟨_, rfl⟩
   replace hm := hm r112 hr
   rw [hr] at hp
   clear hr
   subst hp
   refine eP T hS ⟨[(0, Sl a1 l_ c1), (1, Sl a2 m_ c2), (2, Sl a3 h_ c3), (7, I r112.1), (8, I r112.2)], []⟩ fun a hS => ?_
   refine regO ?_
   refine oP T hS 1 ⟨[(0, Sl a1 l_ c1), (1, Sl a2 m_ c2), (2, Sl a3 h_ c3), (7, I r112.1), (8, I r112.2), (39, Sl a1 l_ c1)], []⟩ fun a hS => ?_
   refine op1 (call hS kr kr hb13 kr (fun _ _ => rfl) (k13 _ _ l_ a1 c1 h101) ?_)
   intro v113 a w114 χ115 hE hp hS
   replace hO := hO.mv hE rfl rfl
   replace h101 := h101.mv hE rfl
   replace h102 := h102.mv hE rfl
   replace h103 := h103.mv hE rfl
   replace hAmb := hAmb.mv hE rfl
   clear hE
   obtain ⟨r116, hr⟩ : ∃ r, ref10_Check l_ = r := ⟨_, rfl⟩
   replace hm := hm r116 hr
   rw [hr] at hp
   clear hr
   subst hp
   refine eP T hS ⟨[(0, Sl a1 l_ c1), (1, Sl a2 m_ c2), (2, Sl a3 h_ c3), (7, I r112.1), (8, I r112.2), (9, I r116.1), (10, I r116.2)], []⟩ fun a hS => ?_
   refine regO ?_
   refine oP T hS 1 ⟨[(0, Sl a1 l_ c1), (1, Sl a2 m_ c2), (2, Sl a3 h_ c3), (7, I r112.1), (8, I r112.2), (9, I r116.1), (10, I r116.2), (44, Sl a1 l_ c1)], []⟩ fun a hS => ?_
   refine op1 (call hS kr kr hb14 kr (fun _ _ => rfl) (k14 _ _ l_ a1 c1 h101 hAmb) ?_)
   intro v117 a w118 χ119 hE hp hS
   replace hO := hO.mv hE rfl rfl
   replace h101 := h101.mv hE rfl
   replace h102 := h102.mv hE rfl
   replace h103 := h103.mv hE rfl
   replace hAmb := hAmb.mv hE rfl
   clear hE
   obtain ⟨r120, hr⟩ : ∃ r, proof_Print l_ = r := ⟨_, rfl⟩
   replace hm := hm r120 hr
   rw [hr] at hp
   clear hr
   subst hp
   refine eP T hS ⟨[(0, Sl a1 l_ c1), (1, Sl a2 m_ c2), (2, Sl a3 h_ c3), (7, I r112.1), (8, I r112.2), (9, I r116.1), (10, I r116.2), (11, Z r120.1), (12, I r120.2)], []⟩ fun a hS => ?_
   refine regO ?_
   refine oP T hS 1 ⟨[(0, Sl a1 l_ c1), (1, Sl a2 m_ c2), (2, Sl a3 h_ c3), (7, I r112.1), (8, I r112.2), (9, I r116.1), (10, I r116.2), (11, Z r120.1), (12, I r120.2), (49, Sl a1 l_ c1)], []⟩ fun a hS => ?_
   refine op1 (call hS kr kr hb15 kr (fun _ _ => rfl) (k15 _ _ l_ a1 c1 h101) ?_)
   intro v121 a w122 χ123 hE hp hS
   replace hO := hO.mv hE rfl rfl
   replace h101 := h101.mv hE rfl
   replace h102 := h102.mv hE rfl
   replace h103 := h103.mv hE rfl
   replace hAmb := hAmb.mv hE rfl
   clear hE
   obtain ⟨r124, hr⟩ : ∃ r, ref10_Print l_ = r := ⟨_, rfl⟩
   replace hm := hm r124 hr
   rw [hr] at hp
   clear hr
   subst hp
   refine eP T hS ⟨[(0, Sl a1 l_ c1), (1, Sl a2 m_ c2), (2, Sl a3 h_ c3), (7, I r112.1), (8, I r112.2), (9, I r116.1), (10, I r116.2), (11, Z r120.1), (12, I r120.2), (13, Z r124.1), (14, I r124.2)], []⟩ fun a hS => ?_
   refine regO ?_
   refine oP T hS 1 ⟨[(0, Sl a1 l_ c1), (1, Sl a2 m_ c2), (2, Sl a3 h_ c3), (7, I r112.1), (8, I r112.2), (9, I r116.1), (10, I r116.2), (11, Z r120.1), (12, I r120.2), (13, Z r124.1), (14, I r124.2), (54, Sl a3 h_ c3)], []⟩ fun a hS => ?_
   obtain ⟨hq, hm⟩ := hm
   refine op1 (call hS kr kr hb16 kr (fun _ _ => rfl) (k16 _ _ h_ a3 c3 hq h103) ?_)
   intro v125 a w126 χ127 hE hp hS
   clear hq
   replace hO := hO.mv hE rfl rfl
   replace h101 := h101.mv hE rfl
   replace h102 := h102.mv hE rfl
   replace h103 := h103.mv hE rfl
   replace hAmb := hAmb.mv hE rfl
   clear hE
   obtain ⟨a129, c130, a132, c133, hp, h131, h134⟩ := hp
   obtain ⟨r128, hr⟩ : ∃ r, proof_Split h_ = r := ⟨_, rfl⟩
   replace hm := hm r128 hr
   rw [hr] at hp h131 h134
   clear hr
   subst hp
   replace hm := hm (h131.sm kr)
   replace hm := hm (h134.sm kr)
   refine eP T hS ⟨[(0, Sl a1 l_ c1), (1, Sl a2 m_ c2), (2, Sl a3 h_ c3), (7, I r112.1), (8, I r112.2), (9, I r116.1), (10, I r116.2), (11, Z r120.1), (12, I r120.2), (13, Z r124.1), (14, I r124.2), (15, Sl a129 r128.1 c130), (16, Sl a132 r128.2 c133)], []⟩ fun a hS => ?_
   refine regO ?_
   refine oP T hS 1 ⟨[(0, Sl a1 l_ c1), (1, Sl a2 m_ c2), (7, I r112.1), (8, I r112.2), (9, I r116.1), (10, I r116.2), (11, Z r120.1), (12, I r120.2), (13, Z r124.1), (14, I r124.2), (15, Sl a129 r128.1 c130), (16, Sl a132 r128.2 c133), (59, Sl a3 h_ c3)], []⟩ fun a hS => ?_
   obtain ⟨hq, hm⟩ := hm
   refine op1 (call hS kr kr hb17 kr (fun _ _ => rfl) (k17 _ _ h_ a3 c3 hq h103) ?_)
   intro v135 a w136 χ137 hE hp hS
   clear hq
   replace hO := hO.mv hE rfl rfl
   replace h101 := h101.mv hE rfl
   replace h102 := h102.mv hE rfl
   replace h103 := h103.mv hE rfl
   replace hAmb := hAmb.mv hE rfl
   replace h131 := h131.mv hE rfl
   replace h134 := h134.mv hE rfl
   clear hE
   obtain ⟨a139, c140, a142, c143, hp, h141, h144⟩ := hp
   obtain ⟨r138, hr⟩ : ∃ r, ref10_Split h_ = r := ⟨_, rfl⟩
   replace hm := hm r138 hr
   rw [hr] at hp h141 h144
   clear hr
   subst hp
   replace hm := hm (h141.sm kr)
   replace hm := hm (h144.sm kr)
   refine eP T hS ⟨[(0, Sl a1 l_ c1), (1, Sl a2 m_ c2), (7, I r112.1), (8, I r112.2), (9, I r116.1), (10, I r116.2), (11, Z r120.1), (12, I r120.2), (13, Z r124.1), (14, I r124.2), (15, Sl a129 r128.1 c130), (16, Sl a132 r128.2 c133), (17, Sl a139 r138.1 c140), (18, Sl a142 r138.2 c143)], []⟩ fun a hS => ?_
   refine regO ?_
   refine oP T hS 19 ⟨[(0, Sl a1 l_ c1), (1, Sl a2 m_ c2), (15, Sl a129 r128.1 c130), (16, Sl a132 r128.2 c133), (17, Sl a139 r138.1 c140), (18, Sl a142 r138.2 c143), (81, B ((((r112.1 == r116.1) && (r112.2 == r116.2)) && (r120.1 == r124.1)) && (r120.2 == r124.2)))], []⟩ (sp := [66, 71, 76]) fun a hS => ?_
   rcases Bool.eq_false_or_eq_true ((((r112.1 == r116.1) && (r112.2 == r116.2)) && (r120.1 == r124.1)) && (r120.2 == r124.2)) with hb | hb
   ·replace hS := hS.lit (t := 81) kr hb
    replace hm := hm.1 hb
    refine oP T hS 2 ⟨[(0, Sl a1 l_ c1), (1, Sl a2 m_ c2), (15, Sl a129 r128.1 c130), (16, Sl a132 r128.2 c133), (17, Sl a139 r138.1 c140), (18, Sl a142 r138.2 c143), (81, B true), (82, Sl a1 l_ c1), (83, Sl a2 m_ c2)], []⟩ fun a hS => ?_
    refine op1 (call hS kr kr hb18 kr (fun _ _ => rfl) (k18 _ _ l_ m_ a1 c1 a2 c2 h101 h102) ?_)
    intro v145 a w146 χ147 hE hp hS
    replace hO := hO.mv hE rfl rfl
    replace h101 := h101.mv hE rfl
    replace h102 := h102.mv hE rfl
    replace hAmb := hAmb.mv hE rfl
    replace h131 := h131.mv hE rfl
    replace h134 := h134.mv hE rfl
    replace h141 := h141.mv hE rfl
    replace h144 := h144.mv hE rfl
    clear hE
    obtain ⟨r148, hr⟩ : ∃ r, proof_Same l_ m_ = r := ⟨_, rfl⟩
    replace hm := hm r148 hr
    rw [hr] at hp
    clear hr
    subst hp
    refine oP T hS 2 ⟨[(15, Sl a129 r128.1 c130), (16, Sl a132 r128.2 c133), (17, Sl a139 r138.1 c140), (18, Sl a142 r138.2 c143), (81, B true), (84, B r148), (85, Sl a1 l_ c1), (86, Sl a2 m_ c2)], []⟩ fun a hS => ?_
    refine op1 (call hS kr kr hb10 kr (fun _ _ => rfl) (k10 _ _ l_ m_ a1 c1 a2 c2 h101 h102) ?_)
    intro v149 a w150 χ151 hE hp hS
    replace hO := hO.mv hE rfl rfl
    replace h101 := h101.mv hE rfl
    replace h102 := h102.mv hE rfl
    replace hAmb := hAmb.mv hE rfl
    replace h131 := h131.mv hE rfl
    replace h134 := h134.mv hE rfl
    replace h141 := h141.mv hE rfl
    replace h144 := h144.mv hE rfl
    clear hE
    obtain ⟨r152, hr⟩ : ∃ r, ref10_Same l_ m_ = r := ⟨_, rfl⟩
    replace hm := hm r152 hr
    rw [hr] at hp
    clear hr
    subst hp
    refine oP T hS 3 ⟨[(15, Sl a129 r128.1 c130), (16, Sl a132 r128.2 c133), (17, Sl a139 r138.1 c140), (18, Sl a142 r138.2 c143), (90, B (r148 == r152))], []⟩ fun a hS => ?_
    rcases Bool.eq_false_or_eq_true (r148 == r152) with hb | hb
    ·replace hS := hS.lit (t := 90) kr hb
     replace hm := hm.1 hb
     refine oP T hS 2 ⟨[(16, Sl a132 r128.2 c133), (18, Sl a142 r138.2 c143), (90, B true), (91, Sl a129 r128.1 c130), (92, Sl a139 r138.1 c140)], []⟩ fun a hS => ?_
     refine op1 (call hS kr kr hb19 kr (fun _ _ => rfl) (k19 _ _ r128.1 r138.1 a129 c130 a139 c140 h131 h141) ?_)
     intro v153 a w154 χ155 hE hp hS
     replace hO := hO.mv hE rfl rfl
     replace hAmb := hAmb.mv hE rfl
     replace h131 := h131.mv hE rfl
     replace h134 := h134.mv hE rfl
     replace h141 := h141.mv hE rfl
     replace h144 := h144.mv hE rfl
     clear hE
     obtain ⟨r156, hr⟩ : ∃ r, ref01_SameInts r128.1 r138.1 = r := ⟨_, rfl⟩
     replace hm := hm r156 hr
     rw [hr] at hp
     clear hr
     subst hp
     refine oP T hS 2 ⟨[(16, Sl a132 r128.2 c133), (18, Sl a142 r138.2 c143), (95, B r156)], []⟩ fun a hS => ?_
     rcases Bool.eq_false_or_eq_true r156 with hb | hb
     ·replace hS := hS.lit (t := 95) kr hb
      replace hm := hm.1 hb
      refine oP T hS 2 ⟨[(95, B true), (96, Sl a132 r128.2 c133), (97, Sl a142 r138.2 c143)], []⟩ fun a hS => ?_
      refine op1 (call hS kr kr hb20 kr (fun _ _ => rfl) (k20 _ _ r128.2 r138.2 a132 c133 a142 c143 h134 h144) ?_)
      intro v157 a w158 χ159 hE hp hS
      replace hO := hO.mv hE rfl rfl
      replace hAmb := hAmb.mv hE rfl
      replace h134 := h134.mv hE rfl
      replace h144 := h144.mv hE rfl
      clear hE
      obtain ⟨r160, hr⟩ : ∃ r, ref04_SameRows r128.2 r138.2 = r := ⟨_, rfl⟩
      replace hm := hm r160 hr
      rw [hr] at hp
      clear hr
      subst hp
      refine oP T hS 2 ⟨[(100, B r160)], []⟩ fun a hS => ?_
      rcases Bool.eq_false_or_eq_true r160 with hb | hb
      ·replace hS := hS.lit (t := 100) kr hb
       replace hm := hm.1 hb
       refine op1 (call hS kr kr hb7 kr (fun _ _ => rfl) (k7 _ _ hAmb) ?_)
       intro v161 a w162 χ163 hE hp hS
       replace hO := hO.mv hE rfl rfl
       replace hAmb := hAmb.mv hE rfl
       clear hE
       obtain ⟨r164, hr⟩ : ∃ r, law10_awake = r := ⟨_, rfl⟩
       replace hm := hm r164 hr
       rw [hr] at hp
       clear hr
       subst hp
       refine eP T hS ⟨[(6, B r164)], []⟩ fun a hS => ?_
       refine wret ?_
       exact fin T hS hO (fun c => c) rfl (r := [.bool r164]) kr (fun χ' hM hC => ⟨r164, hm, rfl⟩)
      ·replace hS := hS.lit (t := 100) kr hb
       replace hm := hm.2 hb
       refine eP T hS ⟨[(6, B false)], []⟩ fun a hS => ?_
       refine wret ?_
       exact fin T hS hO (fun c => c) rfl (r := [.bool false]) kr (fun χ' hM hC => ⟨false, hm, rfl⟩)
     ·replace hS := hS.lit (t := 95) kr hb
      replace hm := hm.2 hb
      refine eP T hS ⟨[(6, B false)], []⟩ fun a hS => ?_
      refine wret ?_
      exact fin T hS hO (fun c => c) rfl (r := [.bool false]) kr (fun χ' hM hC => ⟨false, hm, rfl⟩)
    ·replace hS := hS.lit (t := 90) kr hb
     replace hm := hm.2 hb
     refine eP T hS ⟨[(6, B false)], []⟩ fun a hS => ?_
     refine wret ?_
     exact fin T hS hO (fun c => c) rfl (r := [.bool false]) kr (fun χ' hM hC => ⟨false, hm, rfl⟩)
   ·replace hS := hS.lit (t := 81) kr hb
    replace hm := hm.2 hb
    refine eP T hS ⟨[(6, B false)], []⟩ fun a hS => ?_
    refine wret ?_
    exact fin T hS hO (fun c => c) rfl (r := [.bool false]) kr (fun χ' hM hC => ⟨false, hm, rfl⟩)
end Go.Proofs.YtebhbnlbfglmkaaDoor
