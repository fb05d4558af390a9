/- Walks: each function returns what its condition asks. Condition: the contracts of its callees, handed in. -/
import Derived.Test.YtkgcdoeldilhaaaGreatDoorNWalksS
set_option linter.all false
namespace Go.Proofs.YtkgcdoeldilhaaaGreatDoor
open Go Go.Sv
set_option maxHeartbeats 1000000
theorem W95 (w0 : World) (χ0 : Nat → Nat) (l_ : Int) (Q : Int × Bool → Prop) (hm : VC95 l_ Q) :
  Ret Tryz.prog 95 #[.int .i64 l_] xnone w0 χ0 (fun w χ' v => ∃ r, Q r ∧ v = .tuple #[.int .i64 r.1, .bool r.2]) := by
 unfold VC95 at hm
 refine enter Tryz.func95 rfl (vals := [.int .i64 l_]) kr ?_
 intro ρ a hS hO hM
 clear hM
 refine rP T hS ⟨[(0, I l_)], []⟩ fun a hS => ?_
 refine wseq ?_
 refine rP T hS ⟨[(0, I l_), (9, B ((decide (l_ > 0)) && (decide (l_ ≤ 100000))))], []⟩ (sp := [6]) fun a hS => ?_
 refine wcond hS (b := ((decide (l_ > 0)) && (decide (l_ ≤ 100000)))) kr (fun hb => ?_) (fun hb => ?_)
 ·replace hm := hm.1 hb
  refine rP T hS ⟨[(2, I l_), (3, B true)], []⟩ fun a hS => ?_
  refine wret ?_
  exact fin T hS hO (fun c => c) rfl (r := [.int .i64 l_, .bool true]) kr (fun χ' hM hC => ⟨(l_, true), hm, rfl⟩)
 replace hm := hm.2 hb
 refine wskip (wseq ?_)
 refine rP T hS ⟨[(0, I l_), (16, B ((decide (l_ < 0)) && (decide (l_ ≥ (-100000)))))], []⟩ (sp := [13]) fun a hS => ?_
 refine wcond hS (b := ((decide (l_ < 0)) && (decide (l_ ≥ (-100000))))) kr (fun hb => ?_) (fun hb => ?_)
 ·replace hm := hm.1 hb
  refine rP T hS ⟨[(2, I (wR (0 - l_))), (3, B false)], []⟩ fun a hS => ?_
  refine wret ?_
  exact fin T hS hO (fun c => c) rfl (r := [.int .i64 (wR (0 - l_)), .bool false]) kr (fun χ' hM hC => ⟨(wR (0 - l_), false), hm, rfl⟩)
 replace hm := hm.2 hb
 refine wskip ?_
 refine rP T hS ⟨[(2, I 0), (3, B false)], []⟩ fun a hS => ?_
 refine wret ?_
 exact fin T hS hO (fun c => c) rfl (r := [.int .i64 0, .bool false]) kr (fun χ' hM hC => ⟨(0, false), hm, rfl⟩)
theorem C95 (v : ∀ (l_ : Int), VC95 l_ (fun r => r = ref01_Split l_)) : S95 := by
 intro w χ l_    
 refine (W95 w χ l_    _ (v l_)).mono ?_
 rintro _ _ _ _ ⟨r, rfl, h⟩
 exact h
theorem W82 (k95 : S95) (w0 : World) (χ0 : Nat → Nat) (l_ : Int) (vars : Int) (Q : Int → Prop) (hm : VC82 l_ vars Q) :
  Ret Tryz.prog 82 #[.int .i64 l_, .int .i64 vars] xnone w0 χ0 (fun w χ' v => ∃ r, Q r ∧ v = .int .i64 r) := by
 unfold VC82 at hm
 refine enter Tryz.func82 rfl (vals := [.int .i64 l_, .int .i64 vars]) kr ?_
 intro ρ a hS hO hM
 clear hM
 refine rP T hS ⟨[(0, I l_), (1, I vars)], []⟩ fun a hS => ?_
 refine wseq ?_
 refine rP T hS ⟨[(0, I l_), (1, I vars), (12, B ((decide (vars < 0)) || (decide (vars > 100000))))], []⟩ (sp := [9]) fun a hS => ?_
 refine wcond hS (b := ((decide (vars < 0)) || (decide (vars > 100000)))) kr (fun hb => ?_) (fun hb => ?_)
 ·replace hm := hm.1 hb
  refine rP T hS ⟨[(4, I 2)], []⟩ fun a hS => ?_
  refine wret ?_
  exact fin T hS hO (fun c => c) rfl (r := [.int .i64 2]) kr (fun χ' hM hC => ⟨2, hm, rfl⟩)
 replace hm := hm.2 hb
 refine wskip ?_
 refine regO ?_
 refine oP T hS 1 ⟨[(1, I vars), (14, I l_)], []⟩ fun a hS => ?_
 refine op1 (call hS kr kr hb95 kr (fun _ _ => rfl) (k95 _ _ l_) ?_)
 intro v101 a w102 χ103 hE hp hS
 replace hO := hO.mv hE rfl rfl
 obtain ⟨r104, hr⟩ : ∃ r, ref01_Split l_ = r := ⟨_, rfl⟩
 replace hm := hm r104 hr
 rw [hr] at hp
 clear hr
 subst hp
 refine eP T hS ⟨[(1, I vars), (5, I r104.1)], []⟩ fun a hS => ?_
 refine wseq ?_
 refine rP T hS ⟨[(24, B ((r104.1 == 0) || (decide (r104.1 > vars))))], []⟩ (sp := [20]) fun a hS => ?_
 refine wcond hS (b := ((r104.1 == 0) || (decide (r104.1 > vars)))) kr (fun hb => ?_) (fun hb => ?_)
 ·replace hm := hm.1 hb
  refine rP T hS ⟨[(4, I 10)], []⟩ fun a hS => ?_
  refine wret ?_
  exact fin T hS hO (fun c => c) rfl (r := [.int .i64 10]) kr (fun χ' hM hC => ⟨10, hm, rfl⟩)
 replace hm := hm.2 hb
 refine wskip ?_
 refine rP T hS ⟨[(4, I 0)], []⟩ fun a hS => ?_
 refine wret ?_
 exact fin T hS hO (fun c => c) rfl (r := [.int .i64 0]) kr (fun χ' hM hC => ⟨0, hm, rfl⟩)
theorem C82 (k95 : S95) (v : ∀ (l_ : Int) (vars : Int), VC82 l_ vars (fun r => r = ref01_Check l_ vars)) : S82 := by
 intro w χ l_ vars    
 refine (W82 k95 w χ l_ vars    _ (v l_ vars)).mono ?_
 rintro _ _ _ _ ⟨r, rfl, h⟩
 exact h
theorem W63 (k82 : S82) (k83 : S83) (w0 : World) (χ0 : Nat → Nat) (c_ : List Int) (vars : Int) (a1 : Option Addr) (c1 : Nat) (Q : Int → Prop) (hm : VC63 c_ vars Q) (h1 : RS tI w0 χ0 a1 c_ c1) :
  Ret Tryz.prog 63 #[.slice a1 c_.length c1, .int .i64 vars] xnone w0 χ0 (fun w χ' v => ∃ r, Q r ∧ v = .int .i64 r) := by
 unfold VC63 at hm
 replace hm := hm (h1.sm kr)
 refine enter Tryz.func63 rfl (vals := [.slice a1 c_.length c1, .int .i64 vars]) kr ?_
 intro ρ a hS hO hM
 replace h1 := h1.m0 hM
 clear hM
 refine rP T hS ⟨[(0, Sl a1 c_ c1), (1, I vars)], []⟩ fun a hS => ?_
 refine wseq ?_
 refine rP T hS ⟨[(0, Sl a1 c_ c1), (1, I vars), (12, B ((decide (vars < 0)) || (decide (vars > 100000))))], []⟩ (sp := [9]) fun a hS => ?_
 refine wcond hS (b := ((decide (vars < 0)) || (decide (vars > 100000)))) kr (fun hb => ?_) (fun hb => ?_)
 ·replace hm := hm.1 hb
  refine rP T hS ⟨[(4, I 2)], []⟩ fun a hS => ?_
  refine wret ?_
  exact fin T hS hO (fun c => c) rfl (r := [.int .i64 2]) kr (fun χ' hM hC => ⟨2, hm, rfl⟩)
 replace hm := hm.2 hb
 refine wskip ?_
 refine wseq (rP T hS ⟨[(0, Sl a1 c_ c1), (1, I vars), (15, B (decide ((lN c_) > 1000)))], []⟩ fun a hS => ?_)
 refine wcond hS (b := decide ((lN c_) > 1000)) kr (fun hb => ?_) (fun hb => ?_)
 ·replace hm := hm.1 hb
  refine rP T hS ⟨[(4, I 3)], []⟩ fun a hS => ?_
  refine wret ?_
  exact fin T hS hO (fun c => c) rfl (r := [.int .i64 3]) kr (fun χ' hM hC => ⟨3, hm, rfl⟩)
 replace hm := hm.2 hb
 refine wskip ?_
 refine wcut (fun a w => ∃ (ρ : Nat → Nat) (χ : Nat → Nat), VC63_J1 c_ Q ∧ St Tryz.f63.ntmps ⟨[(0, Sl a1 c_ c1)], []⟩ ρ a w χ ∧ Old w0 χ0 w χ ∧ RS tI w χ a1 c_ c1) ?_ ?_
 ·refine rP T hS ⟨[(0, Sl a1 c_ c1), (1, I vars), (5, I 0)], []⟩ fun a hS => ?_
  refine wblock ?_
  obtain ⟨I2, μ2, hm0, hm⟩ := hm
  refine wloop (σ := Int) (fun s a w => ∃ (ρ : Nat → Nat) (χ : Nat → Nat), I2 s ∧ St Tryz.f63.ntmps ⟨[(0, Sl a1 c_ c1), (1, I vars), (5, I s)], []⟩ ρ a w χ ∧ Old w0 χ0 w χ ∧ RS tI w χ a1 c_ c1) (fun s => μ2 s) (0) ?_ ?_
  ·exact ⟨ρ, _, hm0, hS.sl _, hO, h1⟩
  rintro i_121 a w130 ⟨ρ, χ129, hI, hS, hO, h120⟩
  replace hm := hm i_121 hI
  clear hI hm0
  refine wseq (rP T hS ⟨[(0, Sl a1 c_ c1), (1, I vars), (5, I i_121), (19, B (decide (i_121 < (lN c_))))], []⟩ fun a hS => ?_)
  refine wcond hS (b := decide (i_121 < (lN c_))) kr (fun hb => ?_) (fun hb => ?_)
  ·replace hm := hm.1 hb
   refine wskip (wseq ?_)
   refine wblock ?_
   refine regO ?_
   refine oP T hS 2 ⟨[(0, Sl a1 c_ c1), (1, I vars), (5, I i_121), (22, Sl a1 c_ c1), (23, I i_121)], []⟩ fun a hS => ?_
   obtain ⟨hq, hm⟩ := hm
   refine op1 (index (e := 3) (k := .i64) T hS kr kr kr kr h120 kr kr hq.1 hq.2 ?_)
   intro A122 a h123 hS
   refine op1 (load1 T hS kr kr kr h123 rfl kr ?_)
   intro v124 a hv hS
   cases hv
   refine oP T hS 1 ⟨[(0, Sl a1 c_ c1), (1, I vars), (5, I i_121), (25, I (gi c_ i_121)), (26, I vars)], []⟩ fun a hS => ?_
   refine op1 (call hS kr kr hb82 kr (fun _ _ => rfl) (k82 _ _ (gi c_ i_121) vars) ?_)
   intro v125 a w126 χ127 hE hp hS
   replace hO := hO.mv hE rfl rfl
   replace h120 := h120.mv hE rfl
   obtain ⟨r128, hr⟩ : ∃ r, ref01_Check (gi c_ i_121) vars = r := ⟨_, rfl⟩
   replace hm := hm r128 hr
   rw [hr] at hp
   clear hr
   subst hp
   refine eP T hS ⟨[(0, Sl a1 c_ c1), (1, I vars), (5, I i_121), (28, B (r128 != 0))], []⟩ fun a hS => ?_
   refine wcond hS (b := (r128 != 0)) kr (fun hb => ?_) (fun hb => ?_)
   ·replace hm := hm.1 hb
    refine rP T hS ⟨[(4, I 10)], []⟩ fun a hS => ?_
    refine wret ?_
    exact fin T hS hO (fun c => c) rfl (r := [.int .i64 10]) kr (fun χ' hM hC => ⟨10, hm, rfl⟩)
   replace hm := hm.2 hb
   refine wskip ?_
   refine region (eP T hS ⟨[(0, Sl a1 c_ c1), (1, I vars), (5, I (wR (i_121 + 1)))], []⟩ fun a hS => ?_)
   exact ⟨wR (i_121 + 1), ⟨ρ, _, hm.1, hS.sl _, hO, h120⟩, hm.2⟩
  replace hm := hm.2 hb
  refine wexit (by rfl) ?_
  exact ⟨ρ, _, hm, hS.sl _, hO, h120⟩
 rintro a w132 ⟨ρ, χ131, hm, hS, hO, h101⟩
 unfold VC63_J1 at hm
 refine wcut (fun a w => ∃ (ρ : Nat → Nat) (χ : Nat → Nat), VC63_J2 Q ∧ St Tryz.f63.ntmps ⟨[], []⟩ ρ a w χ ∧ Old w0 χ0 w χ) ?_ ?_
 ·refine rP T hS ⟨[(0, Sl a1 c_ c1), (6, I 0)], []⟩ fun a hS => ?_
  refine wblock ?_
  obtain ⟨I1, μ1, hm0, hm⟩ := hm
  refine wloop (σ := Int) (fun s a w => ∃ (ρ : Nat → Nat) (χ : Nat → Nat), I1 s ∧ St Tryz.f63.ntmps ⟨[(0, Sl a1 c_ c1), (6, I s)], []⟩ ρ a w χ ∧ Old w0 χ0 w χ ∧ RS tI w χ a1 c_ c1) (fun s => μ1 s) (0) ?_ ?_
  ·exact ⟨ρ, _, hm0, hS.sl _, hO, h101⟩
  rintro i_103 a w117 ⟨ρ, χ116, hI, hS, hO, h102⟩
  replace hm := hm i_103 hI
  clear hI hm0
  refine wseq (rP T hS ⟨[(0, Sl a1 c_ c1), (6, I i_103), (32, B (decide (i_103 < (lN c_))))], []⟩ fun a hS => ?_)
  refine wcond hS (b := decide (i_103 < (lN c_))) kr (fun hb => ?_) (fun hb => ?_)
  ·replace hm := hm.1 hb
   refine wskip (wseq ?_)
   refine wblock ?_
   refine drawnSX [] mixed hS ?_
   intro w104 χ105 hS hE hD hH
   replace hO := hO.mv hE rfl rfl
   replace h102 := h102.mv hE rfl
   refine tk T [0, 1, 3, 4] [] hS hH #[true, true, false, true, true, false, false, false] 4 ⟨[(0, Sl a1 c_ c1), (6, I i_103), (35, Sl a1 c_ c1), (36, I i_103), (38, Sl a1 c_ c1), (39, I i_103)], []⟩ fun a hS => ?_
   obtain ⟨hq, hm⟩ := hm
   refine dslice0 (E := 3) (kh := .i64) T 2 hS kr kr kr (by rfl) kr hH kr kr h102 kr kr hq.1 hq.2 ?_
   intro a106 c107 a h108 hS
   obtain ⟨hq, hm⟩ := hm
   refine dindex (e := 3) (k := .i64) T 5 hS kr kr kr (by rfl) kr hH kr kr h102 kr kr hq.1 hq.2 ?_
   intro A109 a h110 hS
   have h110b := h110.here
   refine dload1 T 6 hS kr kr kr (by rfl) kr hH kr h110 h110b rfl kr ?_
   intro v111 a hv hS
   cases hv
   refine only 7 kr (by rfl) (call hS kr kr hb83 kr (fun _ _ => rfl) (k83 _ _ (c_.take i_103.toNat) (gi c_ i_103) a106 c107 h108) ?_)
   intro v112 a w113 χ114 hE hp hS
   replace hO := hO.mv hE rfl rfl
   replace hD := hD.ev hE rfl
   replace h102 := h102.mv hE rfl
   replace h108 := h108.mv hE rfl
   replace h110 := h110.mv hE rfl
   obtain ⟨r115, hr⟩ : ∃ r, ref01_Has (c_.take i_103.toNat) (gi c_ i_103) = r := ⟨_, rfl⟩
   replace hm := hm r115 hr
   rw [hr] at hp
   clear hr
   subst hp
   refine andH (Hold.of hS (bks := []) kr hD) ?_
   intro hH
   refine drawnDone kr ?_
   clear hD hH
   replace hS := hS.sl ⟨[(0, Sl a1 c_ c1), (6, I i_103), (42, B r115)], []⟩
   refine wcond hS (b := r115) kr (fun hb => ?_) (fun hb => ?_)
   ·replace hm := hm.1 hb
    refine rP T hS ⟨[(4, I 21)], []⟩ fun a hS => ?_
    refine wret ?_
    exact fin T hS hO (fun c => c) rfl (r := [.int .i64 21]) kr (fun χ' hM hC => ⟨21, hm, rfl⟩)
   replace hm := hm.2 hb
   refine wskip ?_
   refine region (eP T hS ⟨[(0, Sl a1 c_ c1), (6, I (wR (i_103 + 1)))], []⟩ fun a hS => ?_)
   exact ⟨wR (i_103 + 1), ⟨ρ, _, hm.1, hS.sl _, hO, h102⟩, hm.2⟩
  replace hm := hm.2 hb
  refine wexit (by rfl) ?_
  exact ⟨ρ, _, hm, hS.sl _, hO⟩
 rintro a w119 ⟨ρ, χ118, hm, hS, hO⟩
 unfold VC63_J2 at hm
 refine rP T hS ⟨[(4, I 0)], []⟩ fun a hS => ?_
 refine wret ?_
 exact fin T hS hO (fun c => c) rfl (r := [.int .i64 0]) kr (fun χ' hM hC => ⟨0, hm, rfl⟩)
theorem C63 (k82 : S82) (k83 : S83) (v : ∀ (c_ : List Int) (vars : Int), VC63 c_ vars (fun r => r = ref02_Check c_ vars)) : S63 := by
 intro w χ c_ vars a1 c1   h1
 refine (W63 k82 k83 w χ c_ vars a1 c1   _ (v c_ vars) h1).mono ?_
 rintro _ _ _ _ ⟨r, rfl, h⟩
 exact h
theorem W64 (w0 : World) (χ0 : Nat → Nat) (l_ : List Int) (lo : Int) (a1 : Option Addr) (c1 : Nat) (Q : Bool → Prop) (hm : VC64 l_ lo Q) (h1 : RS tI w0 χ0 a1 l_ c1) :
  Ret Tryz.prog 64 #[.slice a1 l_.length c1, .int .i64 lo] xnone w0 χ0 (fun w χ' v => ∃ r, Q r ∧ v = .bool r) := by
 unfold VC64 at hm
 replace hm := hm (h1.sm kr)
 refine enter Tryz.func64 rfl (vals := [.slice a1 l_.length c1, .int .i64 lo]) kr ?_
 intro ρ a hS hO hM
 replace h1 := h1.m0 hM
 clear hM
 refine rP T hS ⟨[(0, Sl a1 l_ c1), (1, I lo)], []⟩ fun a hS => ?_
 refine wcut (fun a w => ∃ (ρ : Nat → Nat) (χ : Nat → Nat), VC64_J1 l_ Q ∧ St Tryz.f64.ntmps ⟨[(0, Sl a1 l_ c1)], []⟩ ρ a w χ ∧ Old w0 χ0 w χ ∧ RS tI w χ a1 l_ c1) ?_ ?_
 ·refine rP T hS ⟨[(0, Sl a1 l_ c1), (1, I lo), (5, I 0)], []⟩ fun a hS => ?_
  refine wblock ?_
  obtain ⟨I1, μ1, hm0, hm⟩ := hm
  refine wloop (σ := Int) (fun s a w => ∃ (ρ : Nat → Nat) (χ : Nat → Nat), I1 s ∧ St Tryz.f64.ntmps ⟨[(0, Sl a1 l_ c1), (1, I lo), (5, I s)], []⟩ ρ a w χ ∧ Old w0 χ0 w χ ∧ RS tI w χ a1 l_ c1) (fun s => μ1 s) (0) ?_ ?_
  ·exact ⟨ρ, _, hm0, hS.sl _, hO, h1⟩
  rintro i_103 a w118 ⟨ρ, χ117, hI, hS, hO, h102⟩
  replace hm := hm i_103 hI
  clear hI hm0
  refine wseq (rP T hS ⟨[(0, Sl a1 l_ c1), (1, I lo), (5, I i_103), (9, B (decide (i_103 < (lN l_))))], []⟩ fun a hS => ?_)
  refine wcond hS (b := decide (i_103 < (lN l_))) kr (fun hb => ?_) (fun hb => ?_)
  ·replace hm := hm.1 hb
   refine wskip (wseq ?_)
   refine wblock ?_
   refine wcut (fun a w => ∃ (ρ : Nat → Nat) (χ : Nat → Nat) (x_105 : Bool), VC64_J2 Q I1 μ1 i_103 x_105 ∧ St Tryz.f64.ntmps ⟨[(0, Sl a1 l_ c1), (1, I lo), (5, I i_103), (31, B x_105)], []⟩ ρ a w χ ∧ Old w0 χ0 w χ ∧ RS tI w χ a1 l_ c1) ?_ ?_
   ·refine region ?_
    refine oP T hS 2 ⟨[(0, Sl a1 l_ c1), (1, I lo), (5, I i_103), (12, Sl a1 l_ c1), (13, I i_103)], []⟩ fun a hS => ?_
    obtain ⟨hq, hm⟩ := hm
    refine op1 (index (e := 3) (k := .i64) T hS kr kr kr kr h102 kr kr hq.1 hq.2 ?_)
    intro A106 a h107 hS
    refine op1 (load1 T hS kr kr kr h107 rfl kr ?_)
    intro v108 a hv hS
    cases hv
    refine oP T hS 3 ⟨[(0, Sl a1 l_ c1), (1, I lo), (5, I i_103), (18, B (decide ((gi l_ i_103) < lo)))], []⟩ fun a hS => ?_
    rcases Bool.eq_false_or_eq_true (decide ((gi l_ i_103) < lo)) with hb | hb
    ·replace hS := hS.lit (t := 18) kr hb
     replace hm := hm.1 hb
     refine eP T hS ⟨[(0, Sl a1 l_ c1), (1, I lo), (5, I i_103), (31, B true)], []⟩ fun a hS => ?_
     exact ⟨ρ, _, true, hm, hS.sl _, hO, h102⟩
    replace hS := hS.lit (t := 18) kr hb
    replace hm := hm.2 hb
    refine oP T hS 2 ⟨[(0, Sl a1 l_ c1), (1, I lo), (5, I i_103), (18, B false), (19, Sl a1 l_ c1), (20, I i_103)], []⟩ fun a hS => ?_
    obtain ⟨hq, hm⟩ := hm
    refine op1 (index (e := 3) (k := .i64) T hS kr kr kr kr h102 kr kr hq.1 hq.2 ?_)
    intro A109 a h110 hS
    refine op1 (load1 T hS kr kr kr h110 rfl kr ?_)
    intro v111 a hv hS
    cases hv
    refine oP T hS 3 ⟨[(0, Sl a1 l_ c1), (1, I lo), (5, I i_103), (19, Sl a1 l_ c1), (20, I i_103), (21, V (.pointer (some A109))), (22, I (gi l_ i_103)), (23, B (decide ((gi l_ i_103) > 10000000))), (25, B (decide ((gi l_ i_103) > 10000000)))], []⟩ fun a hS => ?_
    rcases Bool.eq_false_or_eq_true (decide ((gi l_ i_103) > 10000000)) with hb | hb
    ·replace hS := hS.lit (t := 25) kr hb
     replace hm := hm.1 hb
     refine eP T hS ⟨[(0, Sl a1 l_ c1), (1, I lo), (5, I i_103), (19, Sl a1 l_ c1), (20, I i_103), (21, V (.pointer (some A109))), (22, I (gi l_ i_103)), (23, B (decide ((gi l_ i_103) > 10000000))), (31, B true)], []⟩ fun a hS => ?_
     exact ⟨ρ, _, true, hm, hS.sl _, hO, h102⟩
    replace hS := hS.lit (t := 25) kr hb
    replace hm := hm.2 hb
    refine oP T hS 2 ⟨[(0, Sl a1 l_ c1), (1, I lo), (5, I i_103), (19, Sl a1 l_ c1), (20, I i_103), (21, V (.pointer (some A109))), (22, I (gi l_ i_103)), (23, B (decide ((gi l_ i_103) > 10000000))), (25, B false), (26, Sl a1 l_ c1), (27, I i_103)], []⟩ fun a hS => ?_
    obtain ⟨hq, hm⟩ := hm
    refine op1 (index (e := 3) (k := .i64) T hS kr kr kr kr h102 kr kr hq.1 hq.2 ?_)
    intro A112 a h113 hS
    refine op1 (load1 T hS kr kr kr h113 rfl kr ?_)
    intro v114 a hv hS
    cases hv
    refine eP T hS ⟨[(0, Sl a1 l_ c1), (1, I lo), (5, I i_103), (19, Sl a1 l_ c1), (20, I i_103), (21, V (.pointer (some A109))), (22, I (gi l_ i_103)), (23, B (decide ((gi l_ i_103) > 10000000))), (26, Sl a1 l_ c1), (27, I i_103), (28, V (.pointer (some A112))), (29, I (gi l_ i_103)), (30, B ((gi l_ i_103) == 0)), (31, B ((gi l_ i_103) == 0))], []⟩ fun a hS => ?_
    exact ⟨ρ, _, ((gi l_ i_103) == 0), hm, hS.sl _, hO, h102⟩
   rintro a w116 ⟨ρ, χ115, x_105, hm, hS, hO, h104⟩
   unfold VC64_J2 at hm
   refine wcond hS (b := x_105) kr (fun hb => ?_) (fun hb => ?_)
   ·replace hm := hm.1 hb
    refine rP T hS ⟨[(4, B false)], []⟩ fun a hS => ?_
    refine wret ?_
    exact fin T hS hO (fun c => c) rfl (r := [.bool false]) kr (fun χ' hM hC => ⟨false, hm, rfl⟩)
   replace hm := hm.2 hb
   refine wskip ?_
   refine region (eP T hS ⟨[(0, Sl a1 l_ c1), (1, I lo), (5, I (wR (i_103 + 1)))], []⟩ fun a hS => ?_)
   exact ⟨wR (i_103 + 1), ⟨ρ, _, hm.1, hS.sl _, hO, h104⟩, hm.2⟩
  replace hm := hm.2 hb
  refine wexit (by rfl) ?_
  exact ⟨ρ, _, hm, hS.sl _, hO, h102⟩
 rintro a w120 ⟨ρ, χ119, hm, hS, hO, h101⟩
 unfold VC64_J1 at hm
 refine rP T hS ⟨[(4, B (decide ((lN l_) ≤ 1000)))], []⟩ fun a hS => ?_
 refine wret ?_
 exact fin T hS hO (fun c => c) rfl (r := [.bool (decide ((lN l_) ≤ 1000))]) kr (fun χ' hM hC => ⟨(decide ((lN l_) ≤ 1000)), hm, rfl⟩)
theorem C64 (v : ∀ (l_ : List Int) (lo : Int), VC64 l_ lo (fun r => r = ref10_within l_ lo)) : S64 := by
 intro w χ l_ lo a1 c1   h1
 refine (W64 w χ l_ lo a1 c1   _ (v l_ lo) h1).mono ?_
 rintro _ _ _ _ ⟨r, rfl, h⟩
 exact h
theorem W39 (k63 : S63) (k64 : S64) (w0 : World) (χ0 : Nat → Nat) (l_ : List Api_Step) (a1 : Option Addr) (c1 : Nat) (Q : Int × Int → Prop) (hm : VC39 l_ Q) (h1 : RS tApi_Step w0 χ0 a1 l_ c1) :
  Ret Tryz.prog 39 #[.slice a1 l_.length c1] xnone w0 χ0 (fun w χ' v => ∃ r, Q r ∧ v = .tuple #[.int .i64 r.1, .int .i64 r.2]) := by
 unfold VC39 at hm
 replace hm := hm (h1.sm kr)
 refine enter Tryz.func39 rfl (vals := [.slice a1 l_.length c1]) kr ?_
 intro ρ a hS hO hM
 replace h1 := h1.m0 hM
 clear hM
 refine rP T hS ⟨[(0, Sl a1 l_ c1)], []⟩ fun a hS => ?_
 refine wseq (rP T hS ⟨[(0, Sl a1 l_ c1), (10, B (decide ((lN l_) > 1000000)))], []⟩ fun a hS => ?_)
 refine wcond hS (b := decide ((lN l_) > 1000000)) kr (fun hb => ?_) (fun hb => ?_)
 ·replace hm := hm.1 hb
  refine rP T hS ⟨[(2, I 0), (3, I 3)], []⟩ fun a hS => ?_
  refine wret ?_
  exact fin T hS hO (fun c => c) rfl (r := [.int .i64 0, .int .i64 3]) kr (fun χ' hM hC => ⟨(0, 3), hm, rfl⟩)
 replace hm := hm.2 hb
 refine wskip ?_
 refine wcut (fun a w => ∃ (ρ : Nat → Nat) (χ : Nat → Nat), VC39_J1 l_ Q ∧ St Tryz.f39.ntmps ⟨[(0, Sl a1 l_ c1)], []⟩ ρ a w χ ∧ Old w0 χ0 w χ ∧ RS tApi_Step w χ a1 l_ c1) ?_ ?_
 ·refine rP T hS ⟨[(0, Sl a1 l_ c1), (4, I 0)], []⟩ fun a hS => ?_
  refine wblock ?_
  obtain ⟨I1, μ1, hm0, hm⟩ := hm
  refine wloop (σ := Int) (fun s a w => ∃ (ρ : Nat → Nat) (χ : Nat → Nat), I1 s ∧ St Tryz.f39.ntmps ⟨[(0, Sl a1 l_ c1), (4, I s)], []⟩ ρ a w χ ∧ Old w0 χ0 w χ ∧ RS tApi_Step w χ a1 l_ c1) (fun s => μ1 s) (0) ?_ ?_
  ·exact ⟨ρ, _, hm0, hS.sl _, hO, h1⟩
  rintro i_103 a w138 ⟨ρ, χ137, hI, hS, hO, h102⟩
  replace hm := hm i_103 hI
  clear hI hm0
  refine wseq (rP T hS ⟨[(0, Sl a1 l_ c1), (4, I i_103), (14, B (decide (i_103 < (lN l_))))], []⟩ fun a hS => ?_)
  refine wcond hS (b := decide (i_103 < (lN l_))) kr (fun hb => ?_) (fun hb => ?_)
  ·replace hm := hm.1 hb
   refine wskip (wseq ?_)
   refine wblock ?_
   refine regO ?_
   refine oP T hS 2 ⟨[(0, Sl a1 l_ c1), (4, I i_103), (17, Sl a1 l_ c1), (18, I i_103)], []⟩ fun a hS => ?_
   obtain ⟨hq, hm⟩ := hm
   refine op1 (index (e := 98) (k := .i64) T hS kr kr kr kr h102 kr kr hq.1 hq.2 ?_)
   intro A104 a h105 hS
   refine op1 (loadA T hS kr kr kr h105 kr kr ?_)
   intro v106 a hv hS
   obtain ⟨a107, c108, a110, c111, hv, h109, h112⟩ := hv
   subst hv
   replace hm := hm (h109.sm kr)
   replace hm := hm (h112.sm kr)
   refine eM T hS ⟨[(0, Sl a1 l_ c1), (4, I i_103), (5, Pt 6 0)], [(6, (98, [I ((gi l_ i_103).Kind), I ((gi l_ i_103).Id), Sl a107 ((gi l_ i_103).Lits) c108, Sl a110 ((gi l_ i_103).Hints) c111]))]⟩ fun ρ a w135 χ136 hS hE hr => ?_
   replace hO := hO.mv hE rfl rfl
   replace h102 := h102.mv hE rfl
   replace h109 := h109.mv hE rfl
   replace h112 := h112.mv hE rfl
   clear hE hr
   refine wcut (fun a w => ∃ (ρ : Nat → Nat) (χ : Nat → Nat) (add_114 : Bool), VC39_J2 l_ Q I1 μ1 i_103 add_114 ∧ St Tryz.f39.ntmps ⟨[(0, Sl a1 l_ c1), (4, I i_103), (5, Pt 6 0), (6, B add_114)], [(6, (98, [I ((gi l_ i_103).Kind), I ((gi l_ i_103).Id), Sl a107 ((gi l_ i_103).Lits) c108, Sl a110 ((gi l_ i_103).Hints) c111]))]⟩ ρ a w χ ∧ Old w0 χ0 w χ ∧ RS tApi_Step w χ a1 l_ c1 ∧ RS tI w χ a107 ((gi l_ i_103).Lits) c108 ∧ RS tI w χ a110 ((gi l_ i_103).Hints) c111) ?_ ?_
   ·refine region ?_
    refine oP T hS 14 ⟨[(0, Sl a1 l_ c1), (4, I i_103), (5, Pt 6 0), (34, B (((((gi l_ i_103).Kind) == 1) && (decide (((gi l_ i_103).Id) ≥ 1))) && (decide (((gi l_ i_103).Id) ≤ 10000000))))], [(6, (98, [I ((gi l_ i_103).Kind), I ((gi l_ i_103).Id), Sl a107 ((gi l_ i_103).Lits) c108, Sl a110 ((gi l_ i_103).Hints) c111]))]⟩ (sp := [24, 29]) fun a hS => ?_
    rcases Bool.eq_false_or_eq_true (((((gi l_ i_103).Kind) == 1) && (decide (((gi l_ i_103).Id) ≥ 1))) && (decide (((gi l_ i_103).Id) ≤ 10000000))) with hb | hb
    ·replace hS := hS.lit (t := 34) kr hb
     replace hm := hm.1 hb
     refine oP T hS 2 ⟨[(0, Sl a1 l_ c1), (4, I i_103), (5, Pt 6 0), (34, B true), (35, Pt 6 2), (36, Sl a107 ((gi l_ i_103).Lits) c108)], [(6, (98, [I ((gi l_ i_103).Kind), I ((gi l_ i_103).Id), Sl a107 ((gi l_ i_103).Lits) c108, Sl a110 ((gi l_ i_103).Hints) c111]))]⟩ fun a hS => ?_
     refine op1 (call hS kr kr hb63 kr (fun _ _ => rfl) (k63 _ _ ((gi l_ i_103).Lits) 100000 a107 c108 h109) ?_)
     intro v125 a w126 χ127 hE hp hS
     replace hO := hO.mv hE rfl rfl
     replace h102 := h102.mv hE rfl
     replace h109 := h109.mv hE rfl
     replace h112 := h112.mv hE rfl
     obtain ⟨r128, hr⟩ : ∃ r, ref02_Check ((gi l_ i_103).Lits) 100000 = r := ⟨_, rfl⟩
     replace hm := hm r128 hr
     rw [hr] at hp
     clear hr
     subst hp
     refine oP T hS 3 ⟨[(0, Sl a1 l_ c1), (4, I i_103), (5, Pt 6 0), (35, Pt 6 2), (36, Sl a107 ((gi l_ i_103).Lits) c108), (37, I r128), (38, B (r128 == 0)), (40, B (r128 == 0))], [(6, (98, [I ((gi l_ i_103).Kind), I ((gi l_ i_103).Id), Sl a107 ((gi l_ i_103).Lits) c108, Sl a110 ((gi l_ i_103).Hints) c111]))]⟩ fun a hS => ?_
     rcases Bool.eq_false_or_eq_true (r128 == 0) with hb | hb
     ·replace hS := hS.lit (t := 40) kr hb
      replace hm := hm.1 hb
      refine oP T hS 2 ⟨[(0, Sl a1 l_ c1), (4, I i_103), (5, Pt 6 0), (35, Pt 6 2), (36, Sl a107 ((gi l_ i_103).Lits) c108), (37, I r128), (38, B (r128 == 0)), (40, B true), (41, Pt 6 3), (42, Sl a110 ((gi l_ i_103).Hints) c111)], [(6, (98, [I ((gi l_ i_103).Kind), I ((gi l_ i_103).Id), Sl a107 ((gi l_ i_103).Lits) c108, Sl a110 ((gi l_ i_103).Hints) c111]))]⟩ fun a hS => ?_
      refine op1 (call hS kr kr hb64 kr (fun _ _ => rfl) (k64 _ _ ((gi l_ i_103).Hints) (-10000000) a110 c111 h112) ?_)
      intro v129 a w130 χ131 hE hp hS
      replace hO := hO.mv hE rfl rfl
      replace h102 := h102.mv hE rfl
      replace h109 := h109.mv hE rfl
      replace h112 := h112.mv hE rfl
      obtain ⟨r132, hr⟩ : ∃ r, ref10_within ((gi l_ i_103).Hints) (-10000000) = r := ⟨_, rfl⟩
      replace hm := hm r132 hr
      rw [hr] at hp
      clear hr
      subst hp
      refine eP T hS ⟨[(0, Sl a1 l_ c1), (4, I i_103), (5, Pt 6 0), (6, B r132), (35, Pt 6 2), (36, Sl a107 ((gi l_ i_103).Lits) c108), (37, I r128), (38, B (r128 == 0)), (41, Pt 6 3), (42, Sl a110 ((gi l_ i_103).Hints) c111), (43, B r132)], [(6, (98, [I ((gi l_ i_103).Kind), I ((gi l_ i_103).Id), Sl a107 ((gi l_ i_103).Lits) c108, Sl a110 ((gi l_ i_103).Hints) c111]))]⟩ fun a hS => ?_
      exact ⟨ρ, _, r132, hm, hS.sl _, hO, h102, h109, h112⟩
     replace hS := hS.lit (t := 40) kr hb
     replace hm := hm.2 hb
     refine eP T hS ⟨[(0, Sl a1 l_ c1), (4, I i_103), (5, Pt 6 0), (6, B false), (35, Pt 6 2), (36, Sl a107 ((gi l_ i_103).Lits) c108), (37, I r128), (38, B (r128 == 0))], [(6, (98, [I ((gi l_ i_103).Kind), I ((gi l_ i_103).Id), Sl a107 ((gi l_ i_103).Lits) c108, Sl a110 ((gi l_ i_103).Hints) c111]))]⟩ fun a hS => ?_
     exact ⟨ρ, _, false, hm, hS.sl _, hO, h102, h109, h112⟩
    replace hS := hS.lit (t := 34) kr hb
    replace hm := hm.2 hb
    refine eP T hS ⟨[(0, Sl a1 l_ c1), (4, I i_103), (5, Pt 6 0), (6, B false)], [(6, (98, [I ((gi l_ i_103).Kind), I ((gi l_ i_103).Id), Sl a107 ((gi l_ i_103).Lits) c108, Sl a110 ((gi l_ i_103).Hints) c111]))]⟩ fun a hS => ?_
    exact ⟨ρ, _, false, hm, hS.sl _, hO, h102, h109, h112⟩
   rintro a w134 ⟨ρ, χ133, add_114, hm, hS, hO, h113, h115, h116⟩
   unfold VC39_J2 at hm
   refine wcut (fun a w => ∃ (ρ : Nat → Nat) (χ : Nat → Nat) (del_118 : Bool), VC39_J3 Q I1 μ1 i_103 add_114 del_118 ∧ St Tryz.f39.ntmps ⟨[(0, Sl a1 l_ c1), (4, I i_103), (6, B add_114), (7, B del_118)], []⟩ ρ a w χ ∧ Old w0 χ0 w χ ∧ RS tApi_Step w χ a1 l_ c1) ?_ ?_
   ·refine region ?_
    refine oP T hS 20 ⟨[(0, Sl a1 l_ c1), (4, I i_103), (5, Pt 6 0), (6, B add_114), (64, B ((((((gi l_ i_103).Kind) == 2) && (decide (((gi l_ i_103).Id) ≥ 0))) && (decide (((gi l_ i_103).Id) ≤ 10000000))) && ((lN ((gi l_ i_103).Lits)) == 0)))], [(6, (98, [I ((gi l_ i_103).Kind), I ((gi l_ i_103).Id), Sl a107 ((gi l_ i_103).Lits) c108, Sl a110 ((gi l_ i_103).Hints) c111]))]⟩ (sp := [48, 53, 58]) fun a hS => ?_
    rcases Bool.eq_false_or_eq_true ((((((gi l_ i_103).Kind) == 2) && (decide (((gi l_ i_103).Id) ≥ 0))) && (decide (((gi l_ i_103).Id) ≤ 10000000))) && ((lN ((gi l_ i_103).Lits)) == 0)) with hb | hb
    ·replace hS := hS.lit (t := 64) kr hb
     replace hm := hm.1 hb
     refine oP T hS 2 ⟨[(0, Sl a1 l_ c1), (4, I i_103), (6, B add_114), (64, B true), (65, Pt 6 3), (66, Sl a110 ((gi l_ i_103).Hints) c111)], [(6, (98, [I ((gi l_ i_103).Kind), I ((gi l_ i_103).Id), Sl a107 ((gi l_ i_103).Lits) c108, Sl a110 ((gi l_ i_103).Hints) c111]))]⟩ fun a hS => ?_
     refine op1 (call hS kr kr hb64 kr (fun _ _ => rfl) (k64 _ _ ((gi l_ i_103).Hints) 1 a110 c111 h116) ?_)
     intro v119 a w120 χ121 hE hp hS
     replace hO := hO.mv hE rfl rfl
     replace h113 := h113.mv hE rfl
     replace h115 := h115.mv hE rfl
     replace h116 := h116.mv hE rfl
     obtain ⟨r122, hr⟩ : ∃ r, ref10_within ((gi l_ i_103).Hints) 1 = r := ⟨_, rfl⟩
     replace hm := hm r122 hr
     rw [hr] at hp
     clear hr
     subst hp
     refine eP T hS ⟨[(0, Sl a1 l_ c1), (4, I i_103), (6, B add_114), (7, B r122), (65, Pt 6 3), (66, Sl a110 ((gi l_ i_103).Hints) c111), (67, B r122)], [(6, (98, [I ((gi l_ i_103).Kind), I ((gi l_ i_103).Id), Sl a107 ((gi l_ i_103).Lits) c108, Sl a110 ((gi l_ i_103).Hints) c111]))]⟩ fun a hS => ?_
     exact ⟨ρ, _, r122, hm, hS.sl _, hO, h113⟩
    replace hS := hS.lit (t := 64) kr hb
    replace hm := hm.2 hb
    refine eP T hS ⟨[(0, Sl a1 l_ c1), (4, I i_103), (6, B add_114), (7, B false)], []⟩ fun a hS => ?_
    exact ⟨ρ, _, false, hm, hS.sl _, hO, h113⟩
   rintro a w124 ⟨ρ, χ123, del_118, hm, hS, hO, h117⟩
   unfold VC39_J3 at hm
   refine rP T hS ⟨[(0, Sl a1 l_ c1), (4, I i_103), (74, B ((!add_114) && (!del_118)))], []⟩ (sp := [71]) fun a hS => ?_
   refine wcond hS (b := ((!add_114) && (!del_118))) kr (fun hb => ?_) (fun hb => ?_)
   ·replace hm := hm.1 hb
    refine rP T hS ⟨[(2, I i_103), (3, I 2)], []⟩ fun a hS => ?_
    refine wret ?_
    exact fin T hS hO (fun c => c) rfl (r := [.int .i64 i_103, .int .i64 2]) kr (fun χ' hM hC => ⟨(i_103, 2), hm, rfl⟩)
   replace hm := hm.2 hb
   refine wskip ?_
   refine region (eP T hS ⟨[(0, Sl a1 l_ c1), (4, I (wR (i_103 + 1)))], []⟩ fun a hS => ?_)
   exact ⟨wR (i_103 + 1), ⟨ρ, _, hm.1, hS.sl _, hO, h117⟩, hm.2⟩
  replace hm := hm.2 hb
  refine wexit (by rfl) ?_
  exact ⟨ρ, _, hm, hS.sl _, hO, h102⟩
 rintro a w140 ⟨ρ, χ139, hm, hS, hO, h101⟩
 unfold VC39_J1 at hm
 refine rP T hS ⟨[(2, I (lN l_)), (3, I 0)], []⟩ fun a hS => ?_
 refine wret ?_
 exact fin T hS hO (fun c => c) rfl (r := [.int .i64 (lN l_), .int .i64 0]) kr (fun χ' hM hC => ⟨((lN l_), 0), hm, rfl⟩)
theorem C39 (k63 : S63) (k64 : S64) (v : ∀ (l_ : List Api_Step), VC39 l_ (fun r => r = ref10_Check l_)) : S39 := by
 intro w χ l_ a1 c1   h1
 refine (W39 k63 k64 w χ l_ a1 c1   _ (v l_) h1).mono ?_
 rintro _ _ _ _ ⟨r, rfl, h⟩
 exact h
theorem W58 (k57 : S57) (w0 : World) (χ0 : Nat → Nat) (l_ : List Int) (a1 : Option Addr) (c1 : Nat) (Q : (List UInt8) → Prop) (hm : VC58 l_ Q) (h1 : RS tI w0 χ0 a1 l_ c1) :
  Ret Tryz.prog 58 #[.slice a1 l_.length c1] xnone w0 χ0 (fun w χ' v => ∃ r, Q r ∧ v = .string (bs r)) := by
 unfold VC58 at hm
 replace hm := hm (h1.sm kr)
 refine enter Tryz.func58 rfl (vals := [.slice a1 l_.length c1]) kr ?_
 intro ρ a hS hO hM
 replace h1 := h1.m0 hM
 clear hM
 refine rP T hS ⟨[(0, Sl a1 l_ c1)], []⟩ fun a hS => ?_
 refine rP T hS ⟨[(0, Sl a1 l_ c1), (3, Z ([] : List UInt8))], []⟩ fun a hS => ?_
 refine wcut (fun a w => ∃ (ρ : Nat → Nat) (χ : Nat → Nat) (out_101 : List UInt8), VC58_J1 Q out_101 ∧ St Tryz.f58.ntmps ⟨[(3, Z out_101)], []⟩ ρ a w χ ∧ Old w0 χ0 w χ) ?_ ?_
 ·refine rP T hS ⟨[(0, Sl a1 l_ c1), (3, Z ([] : List UInt8)), (4, I 0)], []⟩ fun a hS => ?_
  refine wblock ?_
  obtain ⟨I1, μ1, hm0, hm⟩ := hm
  refine wloop (σ := (List UInt8) × Int) (fun s a w => ∃ (ρ : Nat → Nat) (χ : Nat → Nat), I1 s.1 s.2 ∧ St Tryz.f58.ntmps ⟨[(0, Sl a1 l_ c1), (3, Z s.1), (4, I s.2)], []⟩ ρ a w χ ∧ Old w0 χ0 w χ ∧ RS tI w χ a1 l_ c1) (fun s => μ1 s.1 s.2) (⟨([] : List UInt8), 0⟩) ?_ ?_
  ·exact ⟨ρ, _, hm0, hS.sl _, hO, h1⟩
  rintro ⟨out_103, i_104⟩ a w113 ⟨ρ, χ112, hI, hS, hO, h102⟩
  replace hm := hm out_103 i_104 hI
  clear hI hm0
  refine wseq (rP T hS ⟨[(0, Sl a1 l_ c1), (3, Z out_103), (4, I i_104), (8, B (decide (i_104 < (lN l_))))], []⟩ fun a hS => ?_)
  refine wcond hS (b := decide (i_104 < (lN l_))) kr (fun hb => ?_) (fun hb => ?_)
  ·replace hm := hm.1 hb
   refine wskip (wseq ?_)
   refine wblock ?_
   refine region ?_
   refine oP T hS 3 ⟨[(0, Sl a1 l_ c1), (3, Z out_103), (4, I i_104), (11, Z out_103), (12, Sl a1 l_ c1), (13, I i_104)], []⟩ fun a hS => ?_
   obtain ⟨hq, hm⟩ := hm
   refine op1 (index (e := 3) (k := .i64) T hS kr kr kr kr h102 kr kr hq.1 hq.2 ?_)
   intro A105 a h106 hS
   refine op1 (load1 T hS kr kr kr h106 rfl kr ?_)
   intro v107 a hv hS
   cases hv
   obtain ⟨hq, hm⟩ := hm
   refine op1 (call hS kr kr hb57 kr (fun _ _ => rfl) (k57 _ _ (gi l_ i_104) hq) ?_)
   intro v108 a w109 χ110 hE hp hS
   replace hO := hO.mv hE rfl rfl
   replace h102 := h102.mv hE rfl
   replace h106 := h106.mv hE rfl
   obtain ⟨r111, hr⟩ : ∃ r, ref05_Digits (gi l_ i_104) = r := ⟨_, rfl⟩
   replace hm := hm r111 hr
   rw [hr] at hp
   clear hr
   subst hp
   obtain ⟨hq, hm⟩ := hm
   refine op1 (sadd (p := out_103) (q := r111) hS kr kr kr kr hq ?_)
   intro a hS
   obtain ⟨hq, hm⟩ := hm
   refine op1 (sadd (p := (out_103 ++ r111)) (q := ([32] : List UInt8)) hS kr kr kr kr hq ?_)
   intro a hS
   refine eP T hS ⟨[(0, Sl a1 l_ c1), (3, Z ((out_103 ++ r111) ++ ([32] : List UInt8))), (4, I i_104)], []⟩ fun a hS => ?_
   refine region (eP T hS ⟨[(0, Sl a1 l_ c1), (3, Z ((out_103 ++ r111) ++ ([32] : List UInt8))), (4, I (wR (i_104 + 1)))], []⟩ fun a hS => ?_)
   exact ⟨⟨((out_103 ++ r111) ++ ([32] : List UInt8)), wR (i_104 + 1)⟩, ⟨ρ, _, hm.1, hS.sl _, hO, h102⟩, hm.2⟩
  replace hm := hm.2 hb
  refine wexit (by rfl) ?_
  exact ⟨ρ, _, out_103, hm, hS.sl _, hO⟩
 rintro a w115 ⟨ρ, χ114, out_101, hm, hS, hO⟩
 unfold VC58_J1 at hm
 refine regO ?_
 refine oP T hS 1 ⟨[(19, Z out_101)], []⟩ fun a hS => ?_
 obtain ⟨hq, hm⟩ := hm
 refine op1 (sadd (p := out_101) (q := ([48] : List UInt8)) hS kr kr kr kr hq ?_)
 intro a hS
 refine eP T hS ⟨[(2, Z (out_101 ++ ([48] : List UInt8)))], []⟩ fun a hS => ?_
 refine wret ?_
 exact fin T hS hO (fun c => c) rfl (r := [.string (bs (out_101 ++ ([48] : List UInt8)))]) kr (fun χ' hM hC => ⟨(out_101 ++ ([48] : List UInt8)), hm, rfl⟩)
theorem C58 (k57 : S57) (v : ∀ (l_ : List Int), preRn l_ → VC58 l_ (fun r => r = ref10_numbers l_)) : S58 := by
 intro w χ l_ a1 c1   hp h1
 refine (W58 k57 w χ l_ a1 c1   _ (v l_ hp) h1).mono ?_
 rintro _ _ _ _ ⟨r, rfl, h⟩
 exact h
theorem W35 (k39 : S39) (k57 : S57) (k58 : S58) (w0 : World) (χ0 : Nat → Nat) (l_ : List Api_Step) (a1 : Option Addr) (c1 : Nat) (Q : (List UInt8) × Int → Prop) (hm : VC35 l_ Q) (h1 : RS tApi_Step w0 χ0 a1 l_ c1) :
  Ret Tryz.prog 35 #[.slice a1 l_.length c1] xnone w0 χ0 (fun w χ' v => ∃ r, Q r ∧ v = .tuple #[.string (bs r.1), .int .i64 r.2]) := by
 unfold VC35 at hm
 replace hm := hm (h1.sm kr)
 refine enter Tryz.func35 rfl (vals := [.slice a1 l_.length c1]) kr ?_
 intro ρ a hS hO hM
 replace h1 := h1.m0 hM
 clear hM
 refine rP T hS ⟨[(0, Sl a1 l_ c1)], []⟩ fun a hS => ?_
 refine regO ?_
 refine oP T hS 1 ⟨[(0, Sl a1 l_ c1), (9, Sl a1 l_ c1)], []⟩ fun a hS => ?_
 refine op1 (call hS kr kr hb39 kr (fun _ _ => rfl) (k39 _ _ l_ a1 c1 h1) ?_)
 intro v101 a w102 χ103 hE hp hS
 replace hO := hO.mv hE rfl rfl
 replace h1 := h1.mv hE rfl
 obtain ⟨r104, hr⟩ : ∃ r, ref10_Check l_ = r := ⟨_, rfl⟩
 replace hm := hm r104 hr
 rw [hr] at hp
 clear hr
 subst hp
 refine eP T hS ⟨[(0, Sl a1 l_ c1), (5, I r104.2)], []⟩ fun a hS => ?_
 refine wseq (rP T hS ⟨[(0, Sl a1 l_ c1), (5, I r104.2), (14, B (r104.2 != 0))], []⟩ fun a hS => ?_)
 refine wcond hS (b := (r104.2 != 0)) kr (fun hb => ?_) (fun hb => ?_)
 ·replace hm := hm.1 hb
  refine rP T hS ⟨[(2, Z ([] : List UInt8)), (3, I r104.2)], []⟩ fun a hS => ?_
  refine wret ?_
  exact fin T hS hO (fun c => c) rfl (r := [.string (bs ([] : List UInt8)), .int .i64 r104.2]) kr (fun χ' hM hC => ⟨(([] : List UInt8), r104.2), hm, rfl⟩)
 replace hm := hm.2 hb
 refine wskip ?_
 refine rP T hS ⟨[(0, Sl a1 l_ c1), (6, Z ([] : List UInt8))], []⟩ fun a hS => ?_
 refine wcut (fun a w => ∃ (ρ : Nat → Nat) (χ : Nat → Nat) (out_105 : List UInt8), VC35_J1 Q out_105 ∧ St Tryz.f35.ntmps ⟨[(6, Z out_105)], []⟩ ρ a w χ ∧ Old w0 χ0 w χ) ?_ ?_
 ·refine rP T hS ⟨[(0, Sl a1 l_ c1), (6, Z ([] : List UInt8)), (7, I 0)], []⟩ fun a hS => ?_
  refine wblock ?_
  obtain ⟨I1, μ1, hm0, hm⟩ := hm
  refine wloop (σ := (List UInt8) × Int) (fun s a w => ∃ (ρ : Nat → Nat) (χ : Nat → Nat), I1 s.1 s.2 ∧ St Tryz.f35.ntmps ⟨[(0, Sl a1 l_ c1), (6, Z s.1), (7, I s.2)], []⟩ ρ a w χ ∧ Old w0 χ0 w χ ∧ RS tApi_Step w χ a1 l_ c1) (fun s => μ1 s.1 s.2) (⟨([] : List UInt8), 0⟩) ?_ ?_
  ·exact ⟨ρ, _, hm0, hS.sl _, hO, h1⟩
  rintro ⟨out_107, i_108⟩ a w152 ⟨ρ, χ151, hI, hS, hO, h106⟩
  replace hm := hm out_107 i_108 hI
  clear hI hm0
  refine wseq (rP T hS ⟨[(0, Sl a1 l_ c1), (6, Z out_107), (7, I i_108), (19, B (decide (i_108 < (lN l_))))], []⟩ fun a hS => ?_)
  refine wcond hS (b := decide (i_108 < (lN l_))) kr (fun hb => ?_) (fun hb => ?_)
  ·replace hm := hm.1 hb
   refine wskip (wseq ?_)
   refine wblock ?_
   refine regO ?_
   refine oP T hS 3 ⟨[(0, Sl a1 l_ c1), (6, Z out_107), (7, I i_108), (22, Z out_107), (23, Sl a1 l_ c1), (24, I i_108)], []⟩ fun a hS => ?_
   obtain ⟨hq, hm⟩ := hm
   refine op1 (index (e := 98) (k := .i64) T hS kr kr kr kr h106 kr kr hq.1 hq.2 ?_)
   intro A109 a h110 hS
   refine op1 (fieldA (off := 1) (fsz := 1) (ft := 3) (TF := tI) (y := (gi l_ i_108).Id) T hS kr kr kr h110 kr kr kr (fun cs h => Api_Step_f1 h) ?_)
   intro A111 a h112 hS
   refine op1 (load1 T hS kr kr kr h112 rfl kr ?_)
   intro v113 a hv hS
   cases hv
   obtain ⟨hq, hm⟩ := hm
   refine op1 (call hS kr kr hb57 kr (fun _ _ => rfl) (k57 _ _ ((gi l_ i_108).Id) hq) ?_)
   intro v114 a w115 χ116 hE hp hS
   replace hO := hO.mv hE rfl rfl
   replace h106 := h106.mv hE rfl
   replace h110 := h110.mv hE rfl
   replace h112 := h112.mv hE rfl
   obtain ⟨r117, hr⟩ : ∃ r, ref05_Digits ((gi l_ i_108).Id) = r := ⟨_, rfl⟩
   replace hm := hm r117 hr
   rw [hr] at hp
   clear hr
   subst hp
   obtain ⟨hq, hm⟩ := hm
   refine op1 (sadd (p := out_107) (q := r117) hS kr kr kr kr hq ?_)
   intro a hS
   obtain ⟨hq, hm⟩ := hm
   refine op1 (sadd (p := (out_107 ++ r117)) (q := ([32] : List UInt8)) hS kr kr kr kr hq ?_)
   intro a hS
   refine eP T hS ⟨[(0, Sl a1 l_ c1), (6, Z ((out_107 ++ r117) ++ ([32] : List UInt8))), (7, I i_108)], []⟩ fun a hS => ?_
   refine wcut (fun a w => ∃ (ρ : Nat → Nat) (χ : Nat → Nat) (out_119 : List UInt8), VC35_J2 l_ I1 μ1 out_107 i_108 out_119 ∧ St Tryz.f35.ntmps ⟨[(0, Sl a1 l_ c1), (6, Z out_119), (7, I i_108)], []⟩ ρ a w χ ∧ Old w0 χ0 w χ ∧ RS tApi_Step w χ a1 l_ c1) ?_ ?_
   ·refine regO ?_
    refine oP T hS 2 ⟨[(0, Sl a1 l_ c1), (6, Z ((out_107 ++ r117) ++ ([32] : List UInt8))), (7, I i_108), (31, Sl a1 l_ c1), (32, I i_108)], []⟩ fun a hS => ?_
    obtain ⟨hq, hm⟩ := hm
    refine op1 (index (e := 98) (k := .i64) T hS kr kr kr kr h106 kr kr hq.1 hq.2 ?_)
    intro A132 a h133 hS
    refine op1 (fieldA (off := 0) (fsz := 1) (ft := 3) (TF := tI) (y := (gi l_ i_108).Kind) T hS kr kr kr h133 kr kr kr (fun cs h => Api_Step_f0 h) ?_)
    intro A134 a h135 hS
    refine op1 (load1 T hS kr kr kr h135 rfl kr ?_)
    intro v136 a hv hS
    cases hv
    refine eP T hS ⟨[(0, Sl a1 l_ c1), (6, Z ((out_107 ++ r117) ++ ([32] : List UInt8))), (7, I i_108), (36, B (((gi l_ i_108).Kind) == 2))], []⟩ fun a hS => ?_
    refine wcond hS (b := (((gi l_ i_108).Kind) == 2)) kr (fun hb => ?_) (fun hb => ?_)
    ·replace hm := hm.1 hb
     refine region ?_
     refine oP T hS 1 ⟨[(0, Sl a1 l_ c1), (6, Z ((out_107 ++ r117) ++ ([32] : List UInt8))), (7, I i_108), (37, Z ((out_107 ++ r117) ++ ([32] : List UInt8)))], []⟩ fun a hS => ?_
     obtain ⟨hq, hm⟩ := hm
     refine op1 (sadd (p := ((out_107 ++ r117) ++ ([32] : List UInt8))) (q := ([100, 32] : List UInt8)) hS kr kr kr kr hq ?_)
     intro a hS
     refine eP T hS ⟨[(0, Sl a1 l_ c1), (6, Z (((out_107 ++ r117) ++ ([32] : List UInt8)) ++ ([100, 32] : List UInt8))), (7, I i_108)], []⟩ fun a hS => ?_
     exact ⟨ρ, _, (((out_107 ++ r117) ++ ([32] : List UInt8)) ++ ([100, 32] : List UInt8)), hm, hS.sl _, hO, h106⟩
    replace hm := hm.2 hb
    refine region ?_
    refine oP T hS 3 ⟨[(0, Sl a1 l_ c1), (6, Z ((out_107 ++ r117) ++ ([32] : List UInt8))), (7, I i_108), (39, Z ((out_107 ++ r117) ++ ([32] : List UInt8))), (40, Sl a1 l_ c1), (41, I i_108)], []⟩ fun a hS => ?_
    obtain ⟨hq, hm⟩ := hm
    refine op1 (index (e := 98) (k := .i64) T hS kr kr kr kr h106 kr kr hq.1 hq.2 ?_)
    intro A137 a h138 hS
    refine op1 (fieldA (off := 2) (fsz := 1) (ft := 50) (TF := (tSlice tI)) (y := (gi l_ i_108).Lits) T hS kr kr kr h138 kr kr kr (fun cs h => Api_Step_f2 h) ?_)
    intro A139 a h140 hS
    refine op1 (load1 T hS kr kr kr h140 rfl kr ?_)
    intro v141 a hv hS
    obtain ⟨a142, c143, hv, h144⟩ := hv
    cases hv
    replace hm := hm (h144.sm kr)
    obtain ⟨hq, hm⟩ := hm
    refine op1 (call hS kr kr hb58 kr (fun _ _ => rfl) (k58 _ _ ((gi l_ i_108).Lits) a142 c143 hq h144) ?_)
    intro v145 a w146 χ147 hE hp hS
    replace hO := hO.mv hE rfl rfl
    replace h106 := h106.mv hE rfl
    replace h138 := h138.mv hE rfl
    replace h140 := h140.mv hE rfl
    replace h144 := h144.mv hE rfl
    obtain ⟨r148, hr⟩ : ∃ r, ref10_numbers ((gi l_ i_108).Lits) = r := ⟨_, rfl⟩
    replace hm := hm r148 hr
    rw [hr] at hp
    clear hr
    subst hp
    obtain ⟨hq, hm⟩ := hm
    refine op1 (sadd (p := ((out_107 ++ r117) ++ ([32] : List UInt8))) (q := r148) hS kr kr kr kr hq ?_)
    intro a hS
    obtain ⟨hq, hm⟩ := hm
    refine op1 (sadd (p := (((out_107 ++ r117) ++ ([32] : List UInt8)) ++ r148)) (q := ([32] : List UInt8)) hS kr kr kr kr hq ?_)
    intro a hS
    refine eP T hS ⟨[(0, Sl a1 l_ c1), (6, Z ((((out_107 ++ r117) ++ ([32] : List UInt8)) ++ r148) ++ ([32] : List UInt8))), (7, I i_108)], []⟩ fun a hS => ?_
    exact ⟨ρ, _, ((((out_107 ++ r117) ++ ([32] : List UInt8)) ++ r148) ++ ([32] : List UInt8)), hm, hS.sl _, hO, h106⟩
   rintro a w150 ⟨ρ, χ149, out_119, hm, hS, hO, h118⟩
   unfold VC35_J2 at hm
   refine region ?_
   refine oP T hS 3 ⟨[(0, Sl a1 l_ c1), (6, Z out_119), (7, I i_108), (48, Z out_119), (49, Sl a1 l_ c1), (50, I i_108)], []⟩ fun a hS => ?_
   obtain ⟨hq, hm⟩ := hm
   refine op1 (index (e := 98) (k := .i64) T hS kr kr kr kr h118 kr kr hq.1 hq.2 ?_)
   intro A120 a h121 hS
   refine op1 (fieldA (off := 3) (fsz := 1) (ft := 50) (TF := (tSlice tI)) (y := (gi l_ i_108).Hints) T hS kr kr kr h121 kr kr kr (fun cs h => Api_Step_f3 h) ?_)
   intro A122 a h123 hS
   refine op1 (load1 T hS kr kr kr h123 rfl kr ?_)
   intro v124 a hv hS
   obtain ⟨a125, c126, hv, h127⟩ := hv
   cases hv
   replace hm := hm (h127.sm kr)
   obtain ⟨hq, hm⟩ := hm
   refine op1 (call hS kr kr hb58 kr (fun _ _ => rfl) (k58 _ _ ((gi l_ i_108).Hints) a125 c126 hq h127) ?_)
   intro v128 a w129 χ130 hE hp hS
   replace hO := hO.mv hE rfl rfl
   replace h118 := h118.mv hE rfl
   replace h121 := h121.mv hE rfl
   replace h123 := h123.mv hE rfl
   replace h127 := h127.mv hE rfl
   obtain ⟨r131, hr⟩ : ∃ r, ref10_numbers ((gi l_ i_108).Hints) = r := ⟨_, rfl⟩
   replace hm := hm r131 hr
   rw [hr] at hp
   clear hr
   subst hp
   obtain ⟨hq, hm⟩ := hm
   refine op1 (sadd (p := out_119) (q := r131) hS kr kr kr kr hq ?_)
   intro a hS
   obtain ⟨hq, hm⟩ := hm
   refine op1 (sadd (p := (out_119 ++ r131)) (q := ([10] : List UInt8)) hS kr kr kr kr hq ?_)
   intro a hS
   refine eP T hS ⟨[(0, Sl a1 l_ c1), (6, Z ((out_119 ++ r131) ++ ([10] : List UInt8))), (7, I i_108)], []⟩ fun a hS => ?_
   refine region (eP T hS ⟨[(0, Sl a1 l_ c1), (6, Z ((out_119 ++ r131) ++ ([10] : List UInt8))), (7, I (wR (i_108 + 1)))], []⟩ fun a hS => ?_)
   exact ⟨⟨((out_119 ++ r131) ++ ([10] : List UInt8)), wR (i_108 + 1)⟩, ⟨ρ, _, hm.1, hS.sl _, hO, h118⟩, hm.2⟩
  replace hm := hm.2 hb
  refine wexit (by rfl) ?_
  exact ⟨ρ, _, out_107, hm, hS.sl _, hO⟩
 rintro a w154 ⟨ρ, χ153, out_105, hm, hS, hO⟩
 unfold VC35_J1 at hm
 refine wseq (rP T hS ⟨[(6, Z out_105), (59, B (decide ((lN out_105) > 1000000)))], []⟩ fun a hS => ?_)
 refine wcond hS (b := decide ((lN out_105) > 1000000)) kr (fun hb => ?_) (fun hb => ?_)
 ·replace hm := hm.1 hb
  refine rP T hS ⟨[(2, Z ([] : List UInt8)), (3, I 3)], []⟩ fun a hS => ?_
  refine wret ?_
  exact fin T hS hO (fun c => c) rfl (r := [.string (bs ([] : List UInt8)), .int .i64 3]) kr (fun χ' hM hC => ⟨(([] : List UInt8), 3), hm, rfl⟩)
 replace hm := hm.2 hb
 refine wskip ?_
 refine rP T hS ⟨[(2, Z out_105), (3, I 0)], []⟩ fun a hS => ?_
 refine wret ?_
 exact fin T hS hO (fun c => c) rfl (r := [.string (bs out_105), .int .i64 0]) kr (fun χ' hM hC => ⟨(out_105, 0), hm, rfl⟩)
theorem C35 (k39 : S39) (k57 : S57) (k58 : S58) (v : ∀ (l_ : List Api_Step), VC35 l_ (fun r => r = ref10_Print l_)) : S35 := by
 intro w χ l_ a1 c1   h1
 refine (W35 k39 k57 k58 w χ l_ a1 c1   _ (v l_) h1).mono ?_
 rintro _ _ _ _ ⟨r, rfl, h⟩
 exact h
theorem W31 (w0 : World) (χ0 : Nat → Nat) (l_ : List Api_Step) (a1 : Option Addr) (c1 : Nat) (Q : Bool → Prop) (hm : VC31 l_ Q) (h1 : RS tApi_Step w0 χ0 a1 l_ c1) :
  Ret Tryz.prog 31 #[.slice a1 l_.length c1] xnone w0 χ0 (fun w χ' v => ∃ r, Q r ∧ v = .bool r) := by
 unfold VC31 at hm
 replace hm := hm (h1.sm kr)
 refine enter Tryz.func31 rfl (vals := [.slice a1 l_.length c1]) kr ?_
 intro ρ a hS hO hM
 replace h1 := h1.m0 hM
 clear hM
 refine rP T hS ⟨[(0, Sl a1 l_ c1)], []⟩ fun a hS => ?_
 refine wseq (rP T hS ⟨[(0, Sl a1 l_ c1), (6, B (decide ((lN l_) > 200)))], []⟩ fun a hS => ?_)
 refine wcond hS (b := decide ((lN l_) > 200)) kr (fun hb => ?_) (fun hb => ?_)
 ·replace hm := hm.1 hb
  refine rP T hS ⟨[(2, B false)], []⟩ fun a hS => ?_
  refine wret ?_
  exact fin T hS hO (fun c => c) rfl (r := [.bool false]) kr (fun χ' hM hC => ⟨false, hm, rfl⟩)
 replace hm := hm.2 hb
 refine wskip ?_
 refine wcut (fun a w => ∃ (ρ : Nat → Nat) (χ : Nat → Nat), VC31_J1 Q ∧ St Tryz.f31.ntmps ⟨[], []⟩ ρ a w χ ∧ Old w0 χ0 w χ) ?_ ?_
 ·refine rP T hS ⟨[(0, Sl a1 l_ c1), (3, I 0)], []⟩ fun a hS => ?_
  refine wblock ?_
  obtain ⟨I1, μ1, hm0, hm⟩ := hm
  refine wloop (σ := Int) (fun s a w => ∃ (ρ : Nat → Nat) (χ : Nat → Nat), I1 s ∧ St Tryz.f31.ntmps ⟨[(0, Sl a1 l_ c1), (3, I s)], []⟩ ρ a w χ ∧ Old w0 χ0 w χ ∧ RS tApi_Step w χ a1 l_ c1) (fun s => μ1 s) (0) ?_ ?_
  ·exact ⟨ρ, _, hm0, hS.sl _, hO, h1⟩
  rintro i_102 a w124 ⟨ρ, χ123, hI, hS, hO, h101⟩
  replace hm := hm i_102 hI
  clear hI hm0
  refine wseq (rP T hS ⟨[(0, Sl a1 l_ c1), (3, I i_102), (10, B (decide (i_102 < (lN l_))))], []⟩ fun a hS => ?_)
  refine wcond hS (b := decide (i_102 < (lN l_))) kr (fun hb => ?_) (fun hb => ?_)
  ·replace hm := hm.1 hb
   refine wskip (wseq ?_)
   refine wblock ?_
   refine wcut (fun a w => ∃ (ρ : Nat → Nat) (χ : Nat → Nat) (x_104 : Bool), VC31_J2 Q I1 μ1 i_102 x_104 ∧ St Tryz.f31.ntmps ⟨[(0, Sl a1 l_ c1), (3, I i_102), (28, B x_104)], []⟩ ρ a w χ ∧ Old w0 χ0 w χ ∧ RS tApi_Step w χ a1 l_ c1) ?_ ?_
   ·refine region ?_
    refine oP T hS 2 ⟨[(0, Sl a1 l_ c1), (3, I i_102), (13, Sl a1 l_ c1), (14, I i_102)], []⟩ fun a hS => ?_
    obtain ⟨hq, hm⟩ := hm
    refine op1 (index (e := 98) (k := .i64) T hS kr kr kr kr h101 kr kr hq.1 hq.2 ?_)
    intro A105 a h106 hS
    refine op1 (fieldA (off := 2) (fsz := 1) (ft := 50) (TF := (tSlice tI)) (y := (gi l_ i_102).Lits) T hS kr kr kr h106 kr kr kr (fun cs h => Api_Step_f2 h) ?_)
    intro A107 a h108 hS
    refine op1 (load1 T hS kr kr kr h108 rfl kr ?_)
    intro v109 a hv hS
    obtain ⟨a110, c111, hv, h112⟩ := hv
    cases hv
    replace hm := hm (h112.sm kr)
    refine oP T hS 3 ⟨[(0, Sl a1 l_ c1), (3, I i_102), (20, B (decide ((lN ((gi l_ i_102).Lits)) > 60)))], []⟩ fun a hS => ?_
    rcases Bool.eq_false_or_eq_true (decide ((lN ((gi l_ i_102).Lits)) > 60)) with hb | hb
    ·replace hS := hS.lit (t := 20) kr hb
     replace hm := hm.1 hb
     refine eP T hS ⟨[(0, Sl a1 l_ c1), (3, I i_102), (28, B true)], []⟩ fun a hS => ?_
     exact ⟨ρ, _, true, hm, hS.sl _, hO, h101⟩
    replace hS := hS.lit (t := 20) kr hb
    replace hm := hm.2 hb
    refine oP T hS 2 ⟨[(0, Sl a1 l_ c1), (3, I i_102), (20, B false), (21, Sl a1 l_ c1), (22, I i_102)], []⟩ fun a hS => ?_
    obtain ⟨hq, hm⟩ := hm
    refine op1 (index (e := 98) (k := .i64) T hS kr kr kr kr h101 kr kr hq.1 hq.2 ?_)
    intro A113 a h114 hS
    refine op1 (fieldA (off := 3) (fsz := 1) (ft := 50) (TF := (tSlice tI)) (y := (gi l_ i_102).Hints) T hS kr kr kr h114 kr kr kr (fun cs h => Api_Step_f3 h) ?_)
    intro A115 a h116 hS
    refine op1 (load1 T hS kr kr kr h116 rfl kr ?_)
    intro v117 a hv hS
    obtain ⟨a118, c119, hv, h120⟩ := hv
    cases hv
    replace hm := hm (h120.sm kr)
    refine eP T hS ⟨[(0, Sl a1 l_ c1), (3, I i_102), (21, Sl a1 l_ c1), (22, I i_102), (23, V (.pointer (some A113))), (24, V (.pointer (some A115))), (25, Sl a118 ((gi l_ i_102).Hints) c119), (26, I (lN ((gi l_ i_102).Hints))), (27, B (decide ((lN ((gi l_ i_102).Hints)) > 200))), (28, B (decide ((lN ((gi l_ i_102).Hints)) > 200)))], []⟩ fun a hS => ?_
    exact ⟨ρ, _, decide ((lN ((gi l_ i_102).Hints)) > 200), hm, hS.sl _, hO, h101⟩
   rintro a w122 ⟨ρ, χ121, x_104, hm, hS, hO, h103⟩
   unfold VC31_J2 at hm
   refine wcond hS (b := x_104) kr (fun hb => ?_) (fun hb => ?_)
   ·replace hm := hm.1 hb
    refine rP T hS ⟨[(2, B false)], []⟩ fun a hS => ?_
    refine wret ?_
    exact fin T hS hO (fun c => c) rfl (r := [.bool false]) kr (fun χ' hM hC => ⟨false, hm, rfl⟩)
   replace hm := hm.2 hb
   refine wskip ?_
   refine region (eP T hS ⟨[(0, Sl a1 l_ c1), (3, I (wR (i_102 + 1)))], []⟩ fun a hS => ?_)
   exact ⟨wR (i_102 + 1), ⟨ρ, _, hm.1, hS.sl _, hO, h103⟩, hm.2⟩
  replace hm := hm.2 hb
  refine wexit (by rfl) ?_
  exact ⟨ρ, _, hm, hS.sl _, hO⟩
 rintro a w126 ⟨ρ, χ125, hm, hS, hO⟩
 unfold VC31_J1 at hm
 refine rP T hS ⟨[(2, B true)], []⟩ fun a hS => ?_
 refine wret ?_
 exact fin T hS hO (fun c => c) rfl (r := [.bool true]) kr (fun χ' hM hC => ⟨true, hm, rfl⟩)
theorem C31 (v : ∀ (l_ : List Api_Step), VC31 l_ (fun r => r = law10_Few l_)) : S31 := by
 intro w χ l_ a1 c1   h1
 refine (W31 w χ l_ a1 c1   _ (v l_) h1).mono ?_
 rintro _ _ _ _ ⟨r, rfl, h⟩
 exact h
theorem W34 (k57 : S57) (w0 : World) (χ0 : Nat → Nat) (w_ : List UInt8) (n_ : List Int) (a1 : Option Addr) (c1 : Nat) (Q : (List UInt8) → Prop) (hm : VC34 w_ n_ Q) (h1 : RS tI w0 χ0 a1 n_ c1) :
  Ret Tryz.prog 34 #[.string (bs w_), .slice a1 n_.length c1] xnone w0 χ0 (fun w χ' v => ∃ r, Q r ∧ v = .string (bs r)) := by
 unfold VC34 at hm
 replace hm := hm (h1.sm kr)
 refine enter Tryz.func34 rfl (vals := [.string (bs w_), .slice a1 n_.length c1]) kr ?_
 intro ρ a hS hO hM
 replace h1 := h1.m0 hM
 clear hM
 refine rP T hS ⟨[(0, Z w_), (1, Sl a1 n_ c1)], []⟩ fun a hS => ?_
 refine wcut (fun a w => ∃ (ρ : Nat → Nat) (χ : Nat → Nat) (w_101 : List UInt8), VC34_J1 Q w_101 ∧ St Tryz.f34.ntmps ⟨[(0, Z w_101)], []⟩ ρ a w χ ∧ Old w0 χ0 w χ) ?_ ?_
 ·refine rP T hS ⟨[(0, Z w_), (1, Sl a1 n_ c1), (5, I 0)], []⟩ fun a hS => ?_
  refine wblock ?_
  obtain ⟨I1, μ1, hm0, hm⟩ := hm
  refine wloop (σ := (List UInt8) × Int) (fun s a w => ∃ (ρ : Nat → Nat) (χ : Nat → Nat), I1 s.1 s.2 ∧ St Tryz.f34.ntmps ⟨[(0, Z s.1), (1, Sl a1 n_ c1), (5, I s.2)], []⟩ ρ a w χ ∧ Old w0 χ0 w χ ∧ RS tI w χ a1 n_ c1) (fun s => μ1 s.1 s.2) (⟨w_, 0⟩) ?_ ?_
  ·exact ⟨ρ, _, hm0, hS.sl _, hO, h1⟩
  rintro ⟨w_102, i_104⟩ a w113 ⟨ρ, χ112, hI, hS, hO, h103⟩
  replace hm := hm w_102 i_104 hI
  clear hI hm0
  refine wseq (rP T hS ⟨[(0, Z w_102), (1, Sl a1 n_ c1), (5, I i_104), (9, B (decide (i_104 < (lN n_))))], []⟩ fun a hS => ?_)
  refine wcond hS (b := decide (i_104 < (lN n_))) kr (fun hb => ?_) (fun hb => ?_)
  ·replace hm := hm.1 hb
   refine wskip (wseq ?_)
   refine wblock ?_
   refine region ?_
   refine oP T hS 1 ⟨[(0, Z w_102), (1, Sl a1 n_ c1), (5, I i_104), (12, Z w_102)], []⟩ fun a hS => ?_
   obtain ⟨hq, hm⟩ := hm
   refine op1 (sadd (p := w_102) (q := ([32] : List UInt8)) hS kr kr kr kr hq ?_)
   intro a hS
   refine oP T hS 2 ⟨[(0, Z w_102), (1, Sl a1 n_ c1), (5, I i_104), (13, Z (w_102 ++ ([32] : List UInt8))), (14, Sl a1 n_ c1), (15, I i_104)], []⟩ fun a hS => ?_
   obtain ⟨hq, hm⟩ := hm
   refine op1 (index (e := 3) (k := .i64) T hS kr kr kr kr h103 kr kr hq.1 hq.2 ?_)
   intro A105 a h106 hS
   refine op1 (load1 T hS kr kr kr h106 rfl kr ?_)
   intro v107 a hv hS
   cases hv
   obtain ⟨hq, hm⟩ := hm
   refine op1 (call hS kr kr hb57 kr (fun _ _ => rfl) (k57 _ _ (gi n_ i_104) hq) ?_)
   intro v108 a w109 χ110 hE hp hS
   replace hO := hO.mv hE rfl rfl
   replace h103 := h103.mv hE rfl
   replace h106 := h106.mv hE rfl
   obtain ⟨r111, hr⟩ : ∃ r, ref05_Digits (gi n_ i_104) = r := ⟨_, rfl⟩
   replace hm := hm r111 hr
   rw [hr] at hp
   clear hr
   subst hp
   obtain ⟨hq, hm⟩ := hm
   refine op1 (sadd (p := (w_102 ++ ([32] : List UInt8))) (q := r111) hS kr kr kr kr hq ?_)
   intro a hS
   refine eP T hS ⟨[(0, Z ((w_102 ++ ([32] : List UInt8)) ++ r111)), (1, Sl a1 n_ c1), (5, I i_104)], []⟩ fun a hS => ?_
   refine region (eP T hS ⟨[(0, Z ((w_102 ++ ([32] : List UInt8)) ++ r111)), (1, Sl a1 n_ c1), (5, I (wR (i_104 + 1)))], []⟩ fun a hS => ?_)
   exact ⟨⟨((w_102 ++ ([32] : List UInt8)) ++ r111), wR (i_104 + 1)⟩, ⟨ρ, _, hm.1, hS.sl _, hO, h103⟩, hm.2⟩
  replace hm := hm.2 hb
  refine wexit (by rfl) ?_
  exact ⟨ρ, _, w_102, hm, hS.sl _, hO⟩
 rintro a w115 ⟨ρ, χ114, w_101, hm, hS, hO⟩
 unfold VC34_J1 at hm
 refine regO ?_
 refine oP T hS 1 ⟨[(20, Z w_101)], []⟩ fun a hS => ?_
 obtain ⟨hq, hm⟩ := hm
 refine op1 (sadd (p := w_101) (q := ([10] : List UInt8)) hS kr kr kr kr hq ?_)
 intro a hS
 refine eP T hS ⟨[(4, Z (w_101 ++ ([10] : List UInt8)))], []⟩ fun a hS => ?_
 refine wret ?_
 exact fin T hS hO (fun c => c) rfl (r := [.string (bs (w_101 ++ ([10] : List UInt8)))]) kr (fun χ' hM hC => ⟨(w_101 ++ ([10] : List UInt8)), hm, rfl⟩)
theorem C34 (k57 : S57) (v : ∀ (w_ : List UInt8) (n_ : List Int), preWB w_ n_ → VC34 w_ n_ (fun r => r = ref24_Words w_ n_)) : S34 := by
 intro w χ w_ n_ a1 c1   hp h1
 refine (W34 k57 w χ w_ n_ a1 c1   _ (v w_ n_ hp) h1).mono ?_
 rintro _ _ _ _ ⟨r, rfl, h⟩
 exact h
theorem W13 (k16 : S16) (k39 : S39) (k40 : S40) (w0 : World) (χ0 : Nat → Nat) (v_ : Api_Verdict) (a1 : Option Addr) (c1 : Nat) (a2 : Option Addr) (c2 : Nat) (Q : Int → Prop) (hm : VC13 v_ Q) (h1 : RS tApi_Pick w0 χ0 a1 v_.Picks c1) (h2 : RS tApi_Step w0 χ0 a2 v_.Proof c2) :
  Ret Tryz.prog 13 #[.agg #[.int .i64 v_.Kind, .int .i64 v_.At, .int .i64 v_.Err, .slice a1 v_.Picks.length c1, .slice a2 v_.Proof.length c2]] xnone w0 χ0 (fun w χ' v => ∃ r, Q r ∧ v = .int .i64 r) := by
 unfold VC13 at hm
 replace hm := hm (h1.sm kr)
 replace hm := hm (h2.sm kr)
 refine enter Tryz.func13 rfl (vals := [.agg #[.int .i64 v_.Kind, .int .i64 v_.At, .int .i64 v_.Err, .slice a1 v_.Picks.length c1, .slice a2 v_.Proof.length c2]]) kr ?_
 intro ρ a hS hO hM
 replace h1 := h1.m0 hM
 replace h2 := h2.m0 hM
 clear hM
 refine rM T hS ⟨[(1, Pt 2 0)], [(2, (27, [I v_.Kind, I v_.At, I v_.Err, Sl a1 v_.Picks c1, Sl a2 v_.Proof c2]))]⟩ fun ρ a w116 χ117 hS hE hr => ?_
 replace hO := hO.mv hE rfl rfl
 replace h1 := h1.mv hE rfl
 replace h2 := h2.mv hE rfl
 clear hE hr
 refine wseq ?_
 refine regO ?_
 refine oP T hS 2 ⟨[(1, Pt 2 0), (6, I v_.Kind)], [(2, (27, [I v_.Kind, I v_.At, I v_.Err, Sl a1 v_.Picks c1, Sl a2 v_.Proof c2]))]⟩ fun a hS => ?_
 refine op1 (call hS kr kr hb16 kr (fun _ _ => rfl) (k16 _ _ v_.Kind) ?_)
 intro v101 a w102 χ103 hE hp hS
 replace hO := hO.mv hE rfl rfl
 replace h1 := h1.mv hE rfl
 replace h2 := h2.mv hE rfl
 obtain ⟨r104, hr⟩ : ∃ r, ref39_Word v_.Kind = r := ⟨_, rfl⟩
 replace hm := hm r104 hr
 rw [hr] at hp
 clear hr
 subst hp
 refine eP T hS ⟨[(1, Pt 2 0), (8, B (r104 == ([] : List UInt8)))], [(2, (27, [I v_.Kind, I v_.At, I v_.Err, Sl a1 v_.Picks c1, Sl a2 v_.Proof c2]))]⟩ fun a hS => ?_
 refine wcond hS (b := (r104 == ([] : List UInt8))) kr (fun hb => ?_) (fun hb => ?_)
 ·replace hm := hm.1 hb
  refine rP T hS ⟨[(2, I 31)], []⟩ fun a hS => ?_
  refine wret ?_
  exact fin T hS hO (fun c => c) rfl (r := [.int .i64 31]) kr (fun χ' hM hC => ⟨31, hm, rfl⟩)
 replace hm := hm.2 hb
 refine wskip (wseq ?_)
 refine rP T hS ⟨[(1, Pt 2 0), (46, B (((v_.Kind == 1) && ((((decide (v_.At < 0)) || (decide (v_.At > 1000000))) || (decide (v_.Err < 1))) || (decide (v_.Err > 99)))) || ((v_.Kind != 1) && ((v_.At != 0) || (v_.Err != 0)))))], [(2, (27, [I v_.Kind, I v_.At, I v_.Err, Sl a1 v_.Picks c1, Sl a2 v_.Proof c2]))]⟩ (sp := [12, 16, 21, 26, 32, 36, 40]) fun a hS => ?_
 refine wcond hS (b := (((v_.Kind == 1) && ((((decide (v_.At < 0)) || (decide (v_.At > 1000000))) || (decide (v_.Err < 1))) || (decide (v_.Err > 99)))) || ((v_.Kind != 1) && ((v_.At != 0) || (v_.Err != 0))))) kr (fun hb => ?_) (fun hb => ?_)
 ·replace hm := hm.1 hb
  refine rP T hS ⟨[(2, I 2)], []⟩ fun a hS => ?_
  refine wret ?_
  exact fin T hS hO (fun c => c) rfl (r := [.int .i64 2]) kr (fun χ' hM hC => ⟨2, hm, rfl⟩)
 replace hm := hm.2 hb
 refine wskip ?_
 refine regO ?_
 refine oP T hS 2 ⟨[(1, Pt 2 0), (49, Sl a2 v_.Proof c2)], [(2, (27, [I v_.Kind, I v_.At, I v_.Err, Sl a1 v_.Picks c1, Sl a2 v_.Proof c2]))]⟩ fun a hS => ?_
 refine op1 (call hS kr kr hb39 kr (fun _ _ => rfl) (k39 _ _ v_.Proof a2 c2 h2) ?_)
 intro v105 a w106 χ107 hE hp hS
 replace hO := hO.mv hE rfl rfl
 replace h1 := h1.mv hE rfl
 replace h2 := h2.mv hE rfl
 obtain ⟨r108, hr⟩ : ∃ r, ref10_Check v_.Proof = r := ⟨_, rfl⟩
 replace hm := hm r108 hr
 rw [hr] at hp
 clear hr
 subst hp
 refine eP T hS ⟨[(1, Pt 2 0), (4, I r108.2)], [(2, (27, [I v_.Kind, I v_.At, I v_.Err, Sl a1 v_.Picks c1, Sl a2 v_.Proof c2]))]⟩ fun a hS => ?_
 refine wseq ?_
 refine wcut (fun a w => ∃ (ρ : Nat → Nat) (χ : Nat → Nat) (x_109 : Bool), VC13_J1 Q x_109 ∧ St Tryz.f13.ntmps ⟨[(82, B x_109)], []⟩ ρ a w χ ∧ Old w0 χ0 w χ) ?_ ?_
 ·refine region ?_
  refine oP T hS 21 ⟨[(1, Pt 2 0), (4, I r108.2), (73, B (((v_.Kind != 4) && (decide ((lN v_.Picks) > 0))) || ((v_.Kind != 5) && (decide ((lN v_.Proof) > 0)))))], [(2, (27, [I v_.Kind, I v_.At, I v_.Err, Sl a1 v_.Picks c1, Sl a2 v_.Proof c2]))]⟩ (sp := [56, 62, 66]) fun a hS => ?_
  rcases Bool.eq_false_or_eq_true (((v_.Kind != 4) && (decide ((lN v_.Picks) > 0))) || ((v_.Kind != 5) && (decide ((lN v_.Proof) > 0)))) with hb | hb
  ·replace hS := hS.lit (t := 73) kr hb
   replace hm := hm.1 hb
   refine eP T hS ⟨[(82, B true)], []⟩ fun a hS => ?_
   exact ⟨ρ, _, true, hm, hS.sl _, hO⟩
  replace hS := hS.lit (t := 73) kr hb
  replace hm := hm.2 hb
  refine oP T hS 2 ⟨[(4, I r108.2), (73, B false), (75, Sl a1 v_.Picks c1)], []⟩ fun a hS => ?_
  refine op1 (call hS kr kr hb40 kr (fun _ _ => rfl) (k40 _ _ v_.Picks a1 c1 h1) ?_)
  intro v110 a w111 χ112 hE hp hS
  replace hO := hO.mv hE rfl rfl
  replace h1 := h1.mv hE rfl
  obtain ⟨r113, hr⟩ : ∃ r, ref39_picked v_.Picks = r := ⟨_, rfl⟩
  replace hm := hm r113 hr
  rw [hr] at hp
  clear hr
  subst hp
  refine eP T hS ⟨[(82, B ((!r113) || (r108.2 != 0)))], []⟩ (sp := [79]) fun a hS => ?_
  exact ⟨ρ, _, ((!r113) || (r108.2 != 0)), hm, hS.sl _, hO⟩
 rintro a w115 ⟨ρ, χ114, x_109, hm, hS, hO⟩
 unfold VC13_J1 at hm
 refine wcond hS (b := x_109) kr (fun hb => ?_) (fun hb => ?_)
 ·replace hm := hm.1 hb
  refine rP T hS ⟨[(2, I 2)], []⟩ fun a hS => ?_
  refine wret ?_
  exact fin T hS hO (fun c => c) rfl (r := [.int .i64 2]) kr (fun χ' hM hC => ⟨2, hm, rfl⟩)
 replace hm := hm.2 hb
 refine wskip ?_
 refine rP T hS ⟨[(2, I 0)], []⟩ fun a hS => ?_
 refine wret ?_
 exact fin T hS hO (fun c => c) rfl (r := [.int .i64 0]) kr (fun χ' hM hC => ⟨0, hm, rfl⟩)
theorem C13 (k16 : S16) (k39 : S39) (k40 : S40) (v : ∀ (v_ : Api_Verdict), VC13 v_ (fun r => r = ref39_Check v_)) : S13 := by
 intro w χ v_ a1 c1 a2 c2   h1 h2
 refine (W13 k16 k39 k40 w χ v_ a1 c1 a2 c2   _ (v v_) h1 h2).mono ?_
 rintro _ _ _ _ ⟨r, rfl, h⟩
 exact h
theorem W11 (k13 : S13) (k16 : S16) (k34 : S34) (k35 : S35) (w0 : World) (χ0 : Nat → Nat) (v_ : Api_Verdict) (a1 : Option Addr) (c1 : Nat) (a2 : Option Addr) (c2 : Nat) (Q : (List UInt8) × Int → Prop) (hm : VC11 v_ Q) (h1 : RS tApi_Pick w0 χ0 a1 v_.Picks c1) (h2 : RS tApi_Step w0 χ0 a2 v_.Proof c2) :
  Ret Tryz.prog 11 #[.agg #[.int .i64 v_.Kind, .int .i64 v_.At, .int .i64 v_.Err, .slice a1 v_.Picks.length c1, .slice a2 v_.Proof.length c2]] xnone w0 χ0 (fun w χ' v => ∃ r, Q r ∧ v = .tuple #[.string (bs r.1), .int .i64 r.2]) := by
 unfold VC11 at hm
 replace hm := hm (h1.sm kr)
 replace hm := hm (h2.sm kr)
 refine enter Tryz.func11 rfl (vals := [.agg #[.int .i64 v_.Kind, .int .i64 v_.At, .int .i64 v_.Err, .slice a1 v_.Picks.length c1, .slice a2 v_.Proof.length c2]]) kr ?_
 intro ρ a hS hO hM
 replace h1 := h1.m0 hM
 replace h2 := h2.m0 hM
 clear hM
 refine rM T hS ⟨[(1, Pt 2 0)], [(2, (27, [I v_.Kind, I v_.At, I v_.Err, Sl a1 v_.Picks c1, Sl a2 v_.Proof c2]))]⟩ fun ρ a w162 χ163 hS hE hr => ?_
 replace hO := hO.mv hE rfl rfl
 replace h1 := h1.mv hE rfl
 replace h2 := h2.mv hE rfl
 clear hE hr
 refine regO ?_
 refine oP T hS 1 ⟨[(1, Pt 2 0), (11, V (.agg #[.int .i64 v_.Kind, .int .i64 v_.At, .int .i64 v_.Err, .slice a1 v_.Picks.length c1, .slice a2 v_.Proof.length c2]))], [(2, (27, [I v_.Kind, I v_.At, I v_.Err, Sl a1 v_.Picks c1, Sl a2 v_.Proof c2]))]⟩ fun a hS => ?_
 refine op1 (call hS kr kr hb13 kr (fun _ _ => rfl) (k13 _ _ v_ a1 c1 a2 c2 h1 h2) ?_)
 intro v101 a w102 χ103 hE hp hS
 replace hO := hO.mv hE rfl rfl
 replace h1 := h1.mv hE rfl
 replace h2 := h2.mv hE rfl
 obtain ⟨r104, hr⟩ : ∃ r, ref39_Check v_ = r := ⟨_, rfl⟩
 replace hm := hm r104 hr
 rw [hr] at hp
 clear hr
 subst hp
 refine eP T hS ⟨[(1, Pt 2 0), (4, I r104)], [(2, (27, [I v_.Kind, I v_.At, I v_.Err, Sl a1 v_.Picks c1, Sl a2 v_.Proof c2]))]⟩ fun a hS => ?_
 refine wseq (rP T hS ⟨[(1, Pt 2 0), (4, I r104), (14, B (r104 != 0))], [(2, (27, [I v_.Kind, I v_.At, I v_.Err, Sl a1 v_.Picks c1, Sl a2 v_.Proof c2]))]⟩ fun a hS => ?_)
 refine wcond hS (b := (r104 != 0)) kr (fun hb => ?_) (fun hb => ?_)
 ·replace hm := hm.1 hb
  refine rP T hS ⟨[(2, Z ([] : List UInt8)), (3, I r104)], []⟩ fun a hS => ?_
  refine wret ?_
  exact fin T hS hO (fun c => c) rfl (r := [.string (bs ([] : List UInt8)), .int .i64 r104]) kr (fun χ' hM hC => ⟨(([] : List UInt8), r104), hm, rfl⟩)
 replace hm := hm.2 hb
 refine wskip ?_
 refine regO ?_
 refine oP T hS 2 ⟨[(1, Pt 2 0), (17, I v_.Kind)], [(2, (27, [I v_.Kind, I v_.At, I v_.Err, Sl a1 v_.Picks c1, Sl a2 v_.Proof c2]))]⟩ fun a hS => ?_
 refine op1 (call hS kr kr hb16 kr (fun _ _ => rfl) (k16 _ _ v_.Kind) ?_)
 intro v105 a w106 χ107 hE hp hS
 replace hO := hO.mv hE rfl rfl
 replace h1 := h1.mv hE rfl
 replace h2 := h2.mv hE rfl
 obtain ⟨r108, hr⟩ : ∃ r, ref39_Word v_.Kind = r := ⟨_, rfl⟩
 replace hm := hm r108 hr
 rw [hr] at hp
 clear hr
 subst hp
 refine eP T hS ⟨[(1, Pt 2 0), (5, Z r108)], [(2, (27, [I v_.Kind, I v_.At, I v_.Err, Sl a1 v_.Picks c1, Sl a2 v_.Proof c2]))]⟩ fun a hS => ?_
 refine wseq (rP T hS ⟨[(1, Pt 2 0), (5, Z r108), (21, B (v_.Kind == 1))], [(2, (27, [I v_.Kind, I v_.At, I v_.Err, Sl a1 v_.Picks c1, Sl a2 v_.Proof c2]))]⟩ fun a hS => ?_)
 refine wcond hS (b := (v_.Kind == 1)) kr (fun hb => ?_) (fun hb => ?_)
 ·replace hm := hm.1 hb
  refine regO ?_
  refine oP T hS 5 ⟨[(22, Z r108), (24, I v_.At), (26, I v_.Err)], []⟩ fun a hS => ?_
  refine op1 (lit (E := 3) (col := 0) (T := tI) (vals := [.int .i64 v_.At, .int .i64 v_.Err]) (ys := [v_.At, v_.Err]) T hS kr kr kr kr (by exact ⟨rfl, rfl, trivial⟩) rfl kr kr kr kr ?_)
  intro b109 a w110 χ111 hE h112 hN hS
  clear hN
  replace hO := hO.mv hE rfl rfl
  replace h112 := h112.rs0
  obtain ⟨hq, hm⟩ := hm
  refine op1 (call hS kr kr hb34 kr (fun _ _ => rfl) (k34 _ _ r108 [v_.At, v_.Err] (some ⟨b109, 0, none⟩) 2 hq h112) ?_)
  intro v113 a w114 χ115 hE hp hS
  replace hO := hO.mv hE rfl rfl
  replace h112 := h112.mv hE rfl
  obtain ⟨r116, hr⟩ : ∃ r, ref24_Words r108 [v_.At, v_.Err] = r := ⟨_, rfl⟩
  replace hm := hm r116 hr
  rw [hr] at hp
  clear hr
  subst hp
  refine eP T hS ⟨[(2, Z r116), (3, I 0)], []⟩ fun a hS => ?_
  refine wret ?_
  exact fin T hS hO (fun c => c) rfl (r := [.string (bs r116), .int .i64 0]) kr (fun χ' hM hC => ⟨(r116, 0), hm, rfl⟩)
 replace hm := hm.2 hb
 refine wskip ?_
 refine wseq (rP T hS ⟨[(1, Pt 2 0), (5, Z r108), (31, B (v_.Kind == 4))], [(2, (27, [I v_.Kind, I v_.At, I v_.Err, Sl a1 v_.Picks c1, Sl a2 v_.Proof c2]))]⟩ fun a hS => ?_)
 refine wcond hS (b := (v_.Kind == 4)) kr (fun hb => ?_) (fun hb => ?_)
 ·replace hm := hm.1 hb
  refine regO ?_
  refine oP T hS 4 ⟨[(1, Pt 2 0), (32, Z r108), (35, I (lN v_.Picks))], [(2, (27, [I v_.Kind, I v_.At, I v_.Err, Sl a1 v_.Picks c1, Sl a2 v_.Proof c2]))]⟩ fun a hS => ?_
  refine op1 (lit (E := 3) (col := 0) (T := tI) (vals := [.int .i64 (lN v_.Picks)]) (ys := [(lN v_.Picks)]) T hS kr kr kr kr (by exact ⟨rfl, trivial⟩) rfl kr kr kr kr ?_)
  intro b117 a w118 χ119 hE h120 hN hS
  clear hN
  replace hO := hO.mv hE rfl rfl
  replace h1 := h1.mv hE rfl
  replace h2 := h2.mv hE rfl
  replace h120 := h120.rs0
  obtain ⟨hq, hm⟩ := hm
  refine op1 (call hS kr kr hb34 kr (fun _ _ => rfl) (k34 _ _ r108 [(lN v_.Picks)] (some ⟨b117, 0, none⟩) 1 hq h120) ?_)
  intro v121 a w122 χ123 hE hp hS
  replace hO := hO.mv hE rfl rfl
  replace h1 := h1.mv hE rfl
  replace h2 := h2.mv hE rfl
  replace h120 := h120.mv hE rfl
  obtain ⟨r124, hr⟩ : ∃ r, ref24_Words r108 [(lN v_.Picks)] = r := ⟨_, rfl⟩
  replace hm := hm r124 hr
  rw [hr] at hp
  clear hr
  subst hp
  refine eP T hS ⟨[(1, Pt 2 0), (6, Z r124)], [(2, (27, [I v_.Kind, I v_.At, I v_.Err, Sl a1 v_.Picks c1, Sl a2 v_.Proof c2]))]⟩ fun a hS => ?_
  refine wcut (fun a w => ∃ (ρ : Nat → Nat) (χ : Nat → Nat) (s_125 : List UInt8), VC11_J1 Q s_125 ∧ St Tryz.f11.ntmps ⟨[(6, Z s_125)], []⟩ ρ a w χ ∧ Old w0 χ0 w χ) ?_ ?_
  ·refine rP T hS ⟨[(1, Pt 2 0), (6, Z r124), (7, I 0)], [(2, (27, [I v_.Kind, I v_.At, I v_.Err, Sl a1 v_.Picks c1, Sl a2 v_.Proof c2]))]⟩ fun a hS => ?_
   refine wblock ?_
   obtain ⟨I1, μ1, hm0, hm⟩ := hm
   refine wloop (σ := (List UInt8) × Int) (fun s a w => ∃ (ρ : Nat → Nat) (χ : Nat → Nat), I1 s.1 s.2 ∧ St Tryz.f11.ntmps ⟨[(1, Pt 2 0), (6, Z s.1), (7, I s.2)], [(2, (27, [I v_.Kind, I v_.At, I v_.Err, Sl a1 v_.Picks c1, Sl a2 v_.Proof c2]))]⟩ ρ a w χ ∧ Old w0 χ0 w χ ∧ RS tApi_Pick w χ a1 v_.Picks c1 ∧ RS tApi_Step w χ a2 v_.Proof c2) (fun s => μ1 s.1 s.2) (⟨r124, 0⟩) ?_ ?_
   ·exact ⟨ρ, _, hm0, hS.sl _, hO, h1, h2⟩
   rintro ⟨s_126, i_127⟩ a w151 ⟨ρ, χ150, hI, hS, hO, h128, h129⟩
   replace hm := hm s_126 i_127 hI
   clear hI hm0
   refine wseq (rP T hS ⟨[(1, Pt 2 0), (6, Z s_126), (7, I i_127), (42, B (decide (i_127 < (lN v_.Picks))))], [(2, (27, [I v_.Kind, I v_.At, I v_.Err, Sl a1 v_.Picks c1, Sl a2 v_.Proof c2]))]⟩ fun a hS => ?_)
   refine wcond hS (b := decide (i_127 < (lN v_.Picks))) kr (fun hb => ?_) (fun hb => ?_)
   ·replace hm := hm.1 hb
    refine wskip (wseq ?_)
    refine wblock ?_
    refine drawnX [2] mixed hS ?_
    intro w130 χ131 hS hE hD hH
    replace hO := hO.mv hE rfl rfl
    replace h128 := h128.mv hE rfl
    replace h129 := h129.mv hE rfl
    refine tk T [0, 1, 3, 7, 9, 2, 8] [2] hS hH #[true, true, true, true, false, false, false, true, true, true, false, false, false, false, false, false, false] 10 ⟨[(1, Pt 2 0), (6, Z s_126), (7, I i_127), (45, Z s_126), (47, Sl a1 v_.Picks c1), (48, I i_127), (53, Sl a1 v_.Picks c1), (54, I i_127)], [(2, (27, [I v_.Kind, I v_.At, I v_.Err, Sl a1 v_.Picks c1, Sl a2 v_.Proof c2]))]⟩ fun a hS => ?_
    obtain ⟨hq, hm⟩ := hm
    refine dindex (e := 44) (k := .i64) T 4 hS kr kr kr (by rfl) kr hH kr kr h128 kr kr hq.1 hq.2 ?_
    intro A132 a h133 hS
    have h133b := h133.here
    refine dfieldA (off := 0) (fsz := 1) (ft := 3) (TF := tI) (y := (gi v_.Picks i_127).Oper) 5 T hS kr kr kr (by rfl) kr hH kr h133 kr kr kr (fun cs h => Api_Pick_f0 h) ?_
    intro A134 a h135 hbl hS
    have h135b := h133b
    rw [← hbl] at h135b
    clear hbl
    refine dload1 T 6 hS kr kr kr (by rfl) kr hH kr h135 h135b rfl kr ?_
    intro v136 a hv hS
    cases hv
    obtain ⟨hq, hm⟩ := hm
    refine dindex (e := 44) (k := .i64) T 10 hS kr kr kr (by rfl) kr hH kr kr h128 kr kr hq.1 hq.2 ?_
    intro A137 a h138 hS
    have h138b := h138.here
    refine dfieldA (off := 1) (fsz := 1) (ft := 3) (TF := tI) (y := (gi v_.Picks i_127).Result) 11 T hS kr kr kr (by rfl) kr hH kr h138 kr kr kr (fun cs h => Api_Pick_f1 h) ?_
    intro A139 a h140 hbl hS
    have h140b := h138b
    rw [← hbl] at h140b
    clear hbl
    refine dload1 T 12 hS kr kr kr (by rfl) kr hH kr h140 h140b rfl kr ?_
    intro v141 a hv hS
    cases hv
    refine only 13 kr (by rfl) (lit (E := 3) (col := 0) (T := tI) (vals := [.int .i64 ((gi v_.Picks i_127).Oper), .int .i64 ((gi v_.Picks i_127).Result)]) (ys := [(gi v_.Picks i_127).Oper, (gi v_.Picks i_127).Result]) T hS kr kr kr kr (by exact ⟨rfl, rfl, trivial⟩) rfl kr kr kr kr ?_)
    intro b142 a w143 χ144 hE h145 hN hS
    clear hN
    replace hO := hO.mv hE rfl rfl
    replace hD := hD.ev hE rfl
    replace h128 := h128.mv hE rfl
    replace h129 := h129.mv hE rfl
    replace h133 := h133.mv hE rfl
    replace h135 := h135.mv hE rfl
    replace h138 := h138.mv hE rfl
    replace h140 := h140.mv hE rfl
    replace h145 := h145.rs0
    refine andH (Hold.of hS (bks := [2]) kr hD) ?_
    intro hH
    obtain ⟨hq, hm⟩ := hm
    refine only 14 kr (by rfl) (call hS kr kr hb34 kr (fun _ _ => rfl) (k34 _ _ ([112, 105, 99, 107] : List UInt8) [(gi v_.Picks i_127).Oper, (gi v_.Picks i_127).Result] (some ⟨b142, 0, none⟩) 2 hq h145) ?_)
    intro v146 a w147 χ148 hE hp hS
    replace hO := hO.mv hE rfl rfl
    replace hD := hD.ev hE rfl
    replace h128 := h128.mv hE rfl
    replace h129 := h129.mv hE rfl
    replace h133 := h133.mv hE rfl
    replace h135 := h135.mv hE rfl
    replace h138 := h138.mv hE rfl
    replace h140 := h140.mv hE rfl
    replace h145 := h145.mv hE rfl
    obtain ⟨r149, hr⟩ : ∃ r, ref24_Words ([112, 105, 99, 107] : List UInt8) [(gi v_.Picks i_127).Oper, (gi v_.Picks i_127).Result] = r := ⟨_, rfl⟩
    replace hm := hm r149 hr
    rw [hr] at hp
    clear hr
    subst hp
    replace hS := hS.sl ⟨[(1, Pt 2 0), (6, Z s_126), (7, I i_127), (45, Z s_126), (47, Sl a1 v_.Picks c1), (48, I i_127), (53, Sl a1 v_.Picks c1), (54, I i_127), (49, V (.pointer (some A132))), (50, V (.pointer (some A134))), (51, I ((gi v_.Picks i_127).Oper)), (55, V (.pointer (some A137))), (56, V (.pointer (some A139))), (57, I ((gi v_.Picks i_127).Result)), (58, Sl (some ⟨b142, 0, none⟩) [(gi v_.Picks i_127).Oper, (gi v_.Picks i_127).Result] 2), (59, Z r149)], [(2, (27, [I v_.Kind, I v_.At, I v_.Err, Sl a1 v_.Picks c1, Sl a2 v_.Proof c2]))]⟩
    refine andH (Hold.of hS (bks := [2]) kr hD) ?_
    intro hH
    obtain ⟨hq, hm⟩ := hm
    refine only 15 kr (by rfl) (sadd (p := s_126) (q := r149) hS kr kr kr kr hq ?_)
    intro a hS
    refine andH (Hold.of hS (bks := [2]) kr hD) ?_
    intro hH
    refine tk T [16] [2] hS hH #[true, true, true, true, true, true, true, true, true, true, true, true, true, true, true, true, true] 0 ⟨[(1, Pt 2 0), (6, Z (s_126 ++ r149)), (7, I i_127)], [(2, (27, [I v_.Kind, I v_.At, I v_.Err, Sl a1 v_.Picks c1, Sl a2 v_.Proof c2]))]⟩ fun a hS => ?_
    refine drawnDone kr ?_
    clear hD hH
    replace hS := hS.sl ⟨[(1, Pt 2 0), (6, Z (s_126 ++ r149)), (7, I i_127)], [(2, (27, [I v_.Kind, I v_.At, I v_.Err, Sl a1 v_.Picks c1, Sl a2 v_.Proof c2]))]⟩
    refine region (eP T hS ⟨[(1, Pt 2 0), (6, Z (s_126 ++ r149)), (7, I (wR (i_127 + 1)))], [(2, (27, [I v_.Kind, I v_.At, I v_.Err, Sl a1 v_.Picks c1, Sl a2 v_.Proof c2]))]⟩ fun a hS => ?_)
    exact ⟨⟨(s_126 ++ r149), wR (i_127 + 1)⟩, ⟨ρ, _, hm.1, hS.sl _, hO, h128, h129⟩, hm.2⟩
   replace hm := hm.2 hb
   refine wexit (by rfl) ?_
   exact ⟨ρ, _, s_126, hm, hS.sl _, hO⟩
  rintro a w153 ⟨ρ, χ152, s_125, hm, hS, hO⟩
  unfold VC11_J1 at hm
  refine rP T hS ⟨[(2, Z s_125), (3, I 0)], []⟩ fun a hS => ?_
  refine wret ?_
  exact fin T hS hO (fun c => c) rfl (r := [.string (bs s_125), .int .i64 0]) kr (fun χ' hM hC => ⟨(s_125, 0), hm, rfl⟩)
 replace hm := hm.2 hb
 refine wskip ?_
 refine regO ?_
 refine oP T hS 1 ⟨[(1, Pt 2 0), (62, Z r108)], [(2, (27, [I v_.Kind, I v_.At, I v_.Err, Sl a1 v_.Picks c1, Sl a2 v_.Proof c2]))]⟩ fun a hS => ?_
 obtain ⟨hq, hm⟩ := hm
 refine op1 (call hS kr kr hb34 kr (fun _ _ => rfl) (k34 _ _ r108 [] none 0 hq (RS.empty _ _ _)) ?_)
 intro v154 a w155 χ156 hE hp hS
 replace hO := hO.mv hE rfl rfl
 replace h1 := h1.mv hE rfl
 replace h2 := h2.mv hE rfl
 obtain ⟨r157, hr⟩ : ∃ r, ref24_Words r108 [] = r := ⟨_, rfl⟩
 replace hm := hm r157 hr
 rw [hr] at hp
 clear hr
 subst hp
 refine eP T hS ⟨[(1, Pt 2 0), (8, Z r157)], [(2, (27, [I v_.Kind, I v_.At, I v_.Err, Sl a1 v_.Picks c1, Sl a2 v_.Proof c2]))]⟩ fun a hS => ?_
 refine wseq (rP T hS ⟨[(1, Pt 2 0), (8, Z r157), (66, B (v_.Kind == 5))], [(2, (27, [I v_.Kind, I v_.At, I v_.Err, Sl a1 v_.Picks c1, Sl a2 v_.Proof c2]))]⟩ fun a hS => ?_)
 refine wcond hS (b := (v_.Kind == 5)) kr (fun hb => ?_) (fun hb => ?_)
 ·replace hm := hm.1 hb
  refine regO ?_
  refine oP T hS 2 ⟨[(8, Z r157), (69, Sl a2 v_.Proof c2)], []⟩ fun a hS => ?_
  refine op1 (call hS kr kr hb35 kr (fun _ _ => rfl) (k35 _ _ v_.Proof a2 c2 h2) ?_)
  intro v158 a w159 χ160 hE hp hS
  replace hO := hO.mv hE rfl rfl
  replace h2 := h2.mv hE rfl
  obtain ⟨r161, hr⟩ : ∃ r, ref10_Print v_.Proof = r := ⟨_, rfl⟩
  replace hm := hm r161 hr
  rw [hr] at hp
  clear hr
  subst hp
  refine eP T hS ⟨[(8, Z r157), (9, Z r161.1), (10, I r161.2)], []⟩ fun a hS => ?_
  refine wseq ?_
  refine rP T hS ⟨[(8, Z r157), (9, Z r161.1), (82, B ((r161.2 != 0) || (decide ((wR ((lN r157) + (lN r161.1))) > 1000000))))], []⟩ (sp := [75]) fun a hS => ?_
  refine wcond hS (b := ((r161.2 != 0) || (decide ((wR ((lN r157) + (lN r161.1))) > 1000000)))) kr (fun hb => ?_) (fun hb => ?_)
  ·replace hm := hm.1 hb
   refine rP T hS ⟨[(2, Z ([] : List UInt8)), (3, I 3)], []⟩ fun a hS => ?_
   refine wret ?_
   exact fin T hS hO (fun c => c) rfl (r := [.string (bs ([] : List UInt8)), .int .i64 3]) kr (fun χ' hM hC => ⟨(([] : List UInt8), 3), hm, rfl⟩)
  replace hm := hm.2 hb
  refine wskip ?_
  refine regO ?_
  refine oP T hS 2 ⟨[(83, Z r157), (84, Z r161.1)], []⟩ fun a hS => ?_
  obtain ⟨hq, hm⟩ := hm
  refine op1 (sadd (p := r157) (q := r161.1) hS kr kr kr kr hq ?_)
  intro a hS
  refine eP T hS ⟨[(2, Z (r157 ++ r161.1)), (3, I 0)], []⟩ fun a hS => ?_
  refine wret ?_
  exact fin T hS hO (fun c => c) rfl (r := [.string (bs (r157 ++ r161.1)), .int .i64 0]) kr (fun χ' hM hC => ⟨((r157 ++ r161.1), 0), hm, rfl⟩)
 replace hm := hm.2 hb
 refine wskip ?_
 refine rP T hS ⟨[(2, Z r157), (3, I 0)], []⟩ fun a hS => ?_
 refine wret ?_
 exact fin T hS hO (fun c => c) rfl (r := [.string (bs r157), .int .i64 0]) kr (fun χ' hM hC => ⟨(r157, 0), hm, rfl⟩)
theorem C11 (k13 : S13) (k16 : S16) (k34 : S34) (k35 : S35) (v : ∀ (v_ : Api_Verdict), VC11 v_ (fun r => r = ref39_Print v_)) : S11 := by
 intro w χ v_ a1 c1 a2 c2   h1 h2
 refine (W11 k13 k16 k34 k35 w χ v_ a1 c1 a2 c2   _ (v v_) h1 h2).mono ?_
 rintro _ _ _ _ ⟨r, rfl, h⟩
 exact h
theorem W9 (k31 : S31) (w0 : World) (χ0 : Nat → Nat) (v_ : Api_Verdict) (a1 : Option Addr) (c1 : Nat) (a2 : Option Addr) (c2 : Nat) (Q : Bool → Prop) (hm : VC9 v_ Q) (h1 : RS tApi_Pick w0 χ0 a1 v_.Picks c1) (h2 : RS tApi_Step w0 χ0 a2 v_.Proof c2) :
  Ret Tryz.prog 9 #[.agg #[.int .i64 v_.Kind, .int .i64 v_.At, .int .i64 v_.Err, .slice a1 v_.Picks.length c1, .slice a2 v_.Proof.length c2]] xnone w0 χ0 (fun w χ' v => ∃ r, Q r ∧ v = .bool r) := by
 unfold VC9 at hm
 replace hm := hm (h1.sm kr)
 replace hm := hm (h2.sm kr)
 refine enter Tryz.func9 rfl (vals := [.agg #[.int .i64 v_.Kind, .int .i64 v_.At, .int .i64 v_.Err, .slice a1 v_.Picks.length c1, .slice a2 v_.Proof.length c2]]) kr ?_
 intro ρ a hS hO hM
 replace h1 := h1.m0 hM
 replace h2 := h2.m0 hM
 clear hM
 refine rM T hS ⟨[(1, Pt 2 0)], [(2, (27, [I v_.Kind, I v_.At, I v_.Err, Sl a1 v_.Picks c1, Sl a2 v_.Proof c2]))]⟩ fun ρ a w105 χ106 hS hE hr => ?_
 replace hO := hO.mv hE rfl rfl
 replace h1 := h1.mv hE rfl
 replace h2 := h2.mv hE rfl
 clear hE hr
 refine regO ?_
 refine oP T hS 5 ⟨[(1, Pt 2 0), (7, B (decide ((lN v_.Picks) ≤ 100)))], [(2, (27, [I v_.Kind, I v_.At, I v_.Err, Sl a1 v_.Picks c1, Sl a2 v_.Proof c2]))]⟩ fun a hS => ?_
 rcases Bool.eq_false_or_eq_true (decide ((lN v_.Picks) ≤ 100)) with hb | hb
 ·replace hS := hS.lit (t := 7) kr hb
  replace hm := hm.1 hb
  refine oP T hS 2 ⟨[(7, B true), (9, Sl a2 v_.Proof c2)], []⟩ fun a hS => ?_
  refine op1 (call hS kr kr hb31 kr (fun _ _ => rfl) (k31 _ _ v_.Proof a2 c2 h2) ?_)
  intro v101 a w102 χ103 hE hp hS
  replace hO := hO.mv hE rfl rfl
  replace h2 := h2.mv hE rfl
  obtain ⟨r104, hr⟩ : ∃ r, law10_Few v_.Proof = r := ⟨_, rfl⟩
  replace hm := hm r104 hr
  rw [hr] at hp
  clear hr
  subst hp
  refine eP T hS ⟨[(2, B r104)], []⟩ fun a hS => ?_
  refine wret ?_
  exact fin T hS hO (fun c => c) rfl (r := [.bool r104]) kr (fun χ' hM hC => ⟨r104, hm, rfl⟩)
 replace hS := hS.lit (t := 7) kr hb
 replace hm := hm.2 hb
 refine eP T hS ⟨[(2, B false)], []⟩ fun a hS => ?_
 refine wret ?_
 exact fin T hS hO (fun c => c) rfl (r := [.bool false]) kr (fun χ' hM hC => ⟨false, hm, rfl⟩)
theorem C9 (k31 : S31) (v : ∀ (v_ : Api_Verdict), VC9 v_ (fun r => r = law39_Few v_)) : S9 := by
 intro w χ v_ a1 c1 a2 c2   h1 h2
 refine (W9 k31 w χ v_ a1 c1 a2 c2   _ (v v_) h1 h2).mono ?_
 rintro _ _ _ _ ⟨r, rfl, h⟩
 exact h
theorem W4 (k10 : S10) (k11 : S11) (k12 : S12) (k13 : S13) (k14 : S14) (k15 : S15) (k16 : S16) (k5 : S5) (k8 : S8) (k9 : S9) (w0 : World) (χ0 : Nat → Nat) (v_ : Api_Verdict) (w_ : Api_Verdict) (kind : Int) (a1 : Option Addr) (c1 : Nat) (a2 : Option Addr) (c2 : Nat) (a3 : Option Addr) (c3 : Nat) (a4 : Option Addr) (c4 : Nat) (Q : Bool → Prop) (hm : VC4 v_ w_ kind Q) (h1 : RS tApi_Pick w0 χ0 a1 v_.Picks c1) (h2 : RS tApi_Step w0 χ0 a2 v_.Proof c2) (h3 : RS tApi_Pick w0 χ0 a3 w_.Picks c3) (h4 : RS tApi_Step w0 χ0 a4 w_.Proof c4) (hAmb : Amb w0 χ0) :
  Ret Tryz.prog 4 #[.agg #[.int .i64 v_.Kind, .int .i64 v_.At, .int .i64 v_.Err, .slice a1 v_.Picks.length c1, .slice a2 v_.Proof.length c2], .agg #[.int .i64 w_.Kind, .int .i64 w_.At, .int .i64 w_.Err, .slice a3 w_.Picks.length c3, .slice a4 w_.Proof.length c4], .int .i64 kind] xnone w0 χ0 (fun w χ' v => ∃ r, Q r ∧ v = .bool r) := by
 unfold VC4 at hm
 replace hm := hm (h1.sm kr)
 replace hm := hm (h2.sm kr)
 replace hm := hm (h3.sm kr)
 replace hm := hm (h4.sm kr)
 refine enter Tryz.func4 rfl (vals := [.agg #[.int .i64 v_.Kind, .int .i64 v_.At, .int .i64 v_.Err, .slice a1 v_.Picks.length c1, .slice a2 v_.Proof.length c2], .agg #[.int .i64 w_.Kind, .int .i64 w_.At, .int .i64 w_.Err, .slice a3 w_.Picks.length c3, .slice a4 w_.Proof.length c4], .int .i64 kind]) kr ?_
 intro ρ a hS hO hM
 replace h1 := h1.m0 hM
 replace h2 := h2.m0 hM
 replace h3 := h3.m0 hM
 replace h4 := h4.m0 hM
 replace hAmb := hAmb.m0 hM
 clear hM
 refine rM T hS ⟨[(2, I kind), (3, Pt 4 0), (4, Pt 5 0)], [(4, (27, [I v_.Kind, I v_.At, I v_.Err, Sl a1 v_.Picks c1, Sl a2 v_.Proof c2])), (5, (27, [I w_.Kind, I w_.At, I w_.Err, Sl a3 w_.Picks c3, Sl a4 w_.Proof c4]))]⟩ fun ρ a w158 χ159 hS hE hr => ?_
 replace hO := hO.mv hE rfl rfl
 replace h1 := h1.mv hE rfl
 replace h2 := h2.mv hE rfl
 replace h3 := h3.mv hE rfl
 replace h4 := h4.mv hE rfl
 replace hAmb := hAmb.mv hE rfl
 clear hE hr
 refine wseq ?_
 refine wcut (fun a w => ∃ (ρ : Nat → Nat) (χ : Nat → Nat) (x_101 : Bool), VC4_J1 v_ w_ kind Q x_101 ∧ St Tryz.f4.ntmps ⟨[(2, I kind), (3, Pt 4 0), (4, Pt 5 0), (18, B x_101)], [(4, (27, [I v_.Kind, I v_.At, I v_.Err, Sl a1 v_.Picks c1, Sl a2 v_.Proof c2])), (5, (27, [I w_.Kind, I w_.At, I w_.Err, Sl a3 w_.Picks c3, Sl a4 w_.Proof c4]))]⟩ ρ a w χ ∧ Old w0 χ0 w χ ∧ RS tApi_Pick w χ a1 v_.Picks c1 ∧ RS tApi_Step w χ a2 v_.Proof c2 ∧ RS tApi_Pick w χ a3 w_.Picks c3 ∧ RS tApi_Step w χ a4 w_.Proof c4 ∧ Amb w χ) ?_ ?_
 ·refine region ?_
  refine oP T hS 1 ⟨[(2, I kind), (3, Pt 4 0), (4, Pt 5 0), (11, V (.agg #[.int .i64 v_.Kind, .int .i64 v_.At, .int .i64 v_.Err, .slice a1 v_.Picks.length c1, .slice a2 v_.Proof.length c2]))], [(4, (27, [I v_.Kind, I v_.At, I v_.Err, Sl a1 v_.Picks c1, Sl a2 v_.Proof c2])), (5, (27, [I w_.Kind, I w_.At, I w_.Err, Sl a3 w_.Picks c3, Sl a4 w_.Proof c4]))]⟩ fun a hS => ?_
  refine op1 (call hS kr kr hb9 kr (fun _ _ => rfl) (k9 _ _ v_ a1 c1 a2 c2 h1 h2) ?_)
  intro v148 a w149 χ150 hE hp hS
  replace hO := hO.mv hE rfl rfl
  replace h1 := h1.mv hE rfl
  replace h2 := h2.mv hE rfl
  replace h3 := h3.mv hE rfl
  replace h4 := h4.mv hE rfl
  replace hAmb := hAmb.mv hE rfl
  obtain ⟨r151, hr⟩ : ∃ r, law39_Few v_ = r := ⟨_, rfl⟩
  replace hm := hm r151 hr
  rw [hr] at hp
  clear hr
  subst hp
  refine oP T hS 2 ⟨[(2, I kind), (3, Pt 4 0), (4, Pt 5 0), (14, B (!r151))], [(4, (27, [I v_.Kind, I v_.At, I v_.Err, Sl a1 v_.Picks c1, Sl a2 v_.Proof c2])), (5, (27, [I w_.Kind, I w_.At, I w_.Err, Sl a3 w_.Picks c3, Sl a4 w_.Proof c4]))]⟩ fun a hS => ?_
  rcases Bool.eq_false_or_eq_true (!r151) with hb | hb
  ·replace hS := hS.lit (t := 14) kr hb
   replace hm := hm.1 hb
   refine eP T hS ⟨[(2, I kind), (3, Pt 4 0), (4, Pt 5 0), (18, B true)], [(4, (27, [I v_.Kind, I v_.At, I v_.Err, Sl a1 v_.Picks c1, Sl a2 v_.Proof c2])), (5, (27, [I w_.Kind, I w_.At, I w_.Err, Sl a3 w_.Picks c3, Sl a4 w_.Proof c4]))]⟩ fun a hS => ?_
   exact ⟨ρ, _, true, hm, hS.sl _, hO, h1, h2, h3, h4, hAmb⟩
  replace hS := hS.lit (t := 14) kr hb
  replace hm := hm.2 hb
  refine oP T hS 1 ⟨[(2, I kind), (3, Pt 4 0), (4, Pt 5 0), (14, B false), (15, V (.agg #[.int .i64 w_.Kind, .int .i64 w_.At, .int .i64 w_.Err, .slice a3 w_.Picks.length c3, .slice a4 w_.Proof.length c4]))], [(4, (27, [I v_.Kind, I v_.At, I v_.Err, Sl a1 v_.Picks c1, Sl a2 v_.Proof c2])), (5, (27, [I w_.Kind, I w_.At, I w_.Err, Sl a3 w_.Picks c3, Sl a4 w_.Proof c4]))]⟩ fun a hS => ?_
  refine op1 (call hS kr kr hb9 kr (fun _ _ => rfl) (k9 _ _ w_ a3 c3 a4 c4 h3 h4) ?_)
  intro v152 a w153 χ154 hE hp hS
  replace hO := hO.mv hE rfl rfl
  replace h1 := h1.mv hE rfl
  replace h2 := h2.mv hE rfl
  replace h3 := h3.mv hE rfl
  replace h4 := h4.mv hE rfl
  replace hAmb := hAmb.mv hE rfl
  obtain ⟨r155, hr⟩ : ∃ r, law39_Few w_ = r := ⟨_, rfl⟩
  replace hm := hm r155 hr
  rw [hr] at hp
  clear hr
  subst hp
  refine eP T hS ⟨[(2, I kind), (3, Pt 4 0), (4, Pt 5 0), (18, B (!r155))], [(4, (27, [I v_.Kind, I v_.At, I v_.Err, Sl a1 v_.Picks c1, Sl a2 v_.Proof c2])), (5, (27, [I w_.Kind, I w_.At, I w_.Err, Sl a3 w_.Picks c3, Sl a4 w_.Proof c4]))]⟩ fun a hS => ?_
  exact ⟨ρ, _, (!r155), hm, hS.sl _, hO, h1, h2, h3, h4, hAmb⟩
 rintro a w157 ⟨ρ, χ156, x_101, hm, hS, hO, h102, h103, h104, h105, hAmb⟩
 unfold VC4_J1 at hm
 refine wcond hS (b := x_101) kr (fun hb => ?_) (fun hb => ?_)
 ·replace hm := hm.1 hb
  refine regO ?_
  refine op1 (call hS kr kr hb5 kr (fun _ _ => rfl) (k5 _ _ hAmb) ?_)
  intro v106 a w107 χ108 hE hp hS
  replace hO := hO.mv hE rfl rfl
  replace h102 := h102.mv hE rfl
  replace h103 := h103.mv hE rfl
  replace h104 := h104.mv hE rfl
  replace h105 := h105.mv hE rfl
  replace hAmb := hAmb.mv hE rfl
  obtain ⟨r109, hr⟩ : ∃ r, law39_awake = r := ⟨_, rfl⟩
  replace hm := hm r109 hr
  rw [hr] at hp
  clear hr
  subst hp
  refine eP T hS ⟨[(6, B r109)], []⟩ fun a hS => ?_
  refine wret ?_
  exact fin T hS hO (fun c => c) rfl (r := [.bool r109]) kr (fun χ' hM hC => ⟨r109, hm, rfl⟩)
 replace hm := hm.2 hb
 refine wskip ?_
 refine regO ?_
 refine oP T hS 1 ⟨[(2, I kind), (3, Pt 4 0), (4, Pt 5 0), (21, V (.agg #[.int .i64 v_.Kind, .int .i64 v_.At, .int .i64 v_.Err, .slice a1 v_.Picks.length c1, .slice a2 v_.Proof.length c2]))], [(4, (27, [I v_.Kind, I v_.At, I v_.Err, Sl a1 v_.Picks c1, Sl a2 v_.Proof c2])), (5, (27, [I w_.Kind, I w_.At, I w_.Err, Sl a3 w_.Picks c3, Sl a4 w_.Proof c4]))]⟩ fun a hS => ?_
 refine op1 (call hS kr kr hb10 kr (fun _ _ => rfl) (k10 _ _ v_ a1 c1 a2 c2 h102 h103 hAmb) ?_)
 intro v110 a w111 χ112 hE hp hS
 replace hO := hO.mv hE rfl rfl
 replace h102 := h102.mv hE rfl
 replace h103 := h103.mv hE rfl
 replace h104 := h104.mv hE rfl
 replace h105 := h105.mv hE rfl
 replace hAmb := hAmb.mv hE rfl
 obtain ⟨r113, hr⟩ : ∃ r, verdict_Print v_ = r := ⟨_, rfl⟩
 replace hm := hm r113 hr
 rw [hr] at hp
 clear hr
 subst hp
 refine eP T hS ⟨[(2, I kind), (3, Pt 4 0), (4, Pt 5 0), (7, Z r113.1), (8, I r113.2)], [(4, (27, [I v_.Kind, I v_.At, I v_.Err, Sl a1 v_.Picks c1, Sl a2 v_.Proof c2])), (5, (27, [I w_.Kind, I w_.At, I w_.Err, Sl a3 w_.Picks c3, Sl a4 w_.Proof c4]))]⟩ fun a hS => ?_
 refine regO ?_
 refine oP T hS 1 ⟨[(2, I kind), (3, Pt 4 0), (4, Pt 5 0), (7, Z r113.1), (8, I r113.2), (26, V (.agg #[.int .i64 v_.Kind, .int .i64 v_.At, .int .i64 v_.Err, .slice a1 v_.Picks.length c1, .slice a2 v_.Proof.length c2]))], [(4, (27, [I v_.Kind, I v_.At, I v_.Err, Sl a1 v_.Picks c1, Sl a2 v_.Proof c2])), (5, (27, [I w_.Kind, I w_.At, I w_.Err, Sl a3 w_.Picks c3, Sl a4 w_.Proof c4]))]⟩ fun a hS => ?_
 refine op1 (call hS kr kr hb11 kr (fun _ _ => rfl) (k11 _ _ v_ a1 c1 a2 c2 h102 h103) ?_)
 intro v114 a w115 χ116 hE hp hS
 replace hO := hO.mv hE rfl rfl
 replace h102 := h102.mv hE rfl
 replace h103 := h103.mv hE rfl
 replace h104 := h104.mv hE rfl
 replace h105 := h105.mv hE rfl
 replace hAmb := hAmb.mv hE rfl
 obtain ⟨r117, hr⟩ : ∃ r, ref39_Print v_ = r := ⟨_, rfl⟩
 replace hm := hm r117 hr
 rw [hr] at hp
 clear hr
 subst hp
 refine eP T hS ⟨[(2, I kind), (3, Pt 4 0), (4, Pt 5 0), (7, Z r113.1), (8, I r113.2), (9, Z r117.1), (10, I r117.2)], [(4, (27, [I v_.Kind, I v_.At, I v_.Err, Sl a1 v_.Picks c1, Sl a2 v_.Proof c2])), (5, (27, [I w_.Kind, I w_.At, I w_.Err, Sl a3 w_.Picks c3, Sl a4 w_.Proof c4]))]⟩ fun a hS => ?_
 refine drawnSX [4, 5] mixed hS ?_
 intro w118 χ119 hS hE hD hH
 replace hO := hO.mv hE rfl rfl
 replace h102 := h102.mv hE rfl
 replace h103 := h103.mv hE rfl
 replace h104 := h104.mv hE rfl
 replace h105 := h105.mv hE rfl
 replace hAmb := hAmb.mv hE rfl
 refine take T [0, 1, 2, 3] [4, 5] [2, 3, 4, 8, 10, 33] hS kr kr kr hH (listed' := #[true, true, true, true, false, false, false, false, false, false, false, false, false, false, false, false, false, false, false, false, false, false, false, false, false, false, false, false, false, false, false, false, false, false, false]) (fuel := 31) (sy' := ⟨[(2, I kind), (3, Pt 4 0), (4, Pt 5 0), (8, I r113.2), (10, I r117.2), (33, B (r113.1 == r117.1))], [(4, (27, [I v_.Kind, I v_.At, I v_.Err, Sl a1 v_.Picks c1, Sl a2 v_.Proof c2])), (5, (27, [I w_.Kind, I w_.At, I w_.Err, Sl a3 w_.Picks c3, Sl a4 w_.Proof c4]))]⟩) (by as_aux_lemma => kernel_rfl) (by rfl) ?_
 intro a hS
 refine takeM (tc := 33) (b := (r113.1 == r117.1)) (f := fun c => ⟨[(2, I kind), (3, Pt 4 0), (4, Pt 5 0), (37, B (c && (r113.2 == r117.2)))], [(4, (27, [I v_.Kind, I v_.At, I v_.Err, Sl a1 v_.Picks c1, Sl a2 v_.Proof c2])), (5, (27, [I w_.Kind, I w_.At, I w_.Err, Sl a3 w_.Picks c3, Sl a4 w_.Proof c4]))]⟩) T [4, 5, 6, 7] [4, 5] [2, 3, 4, 37] hS kr kr kr kr hH (listed' := #[true, true, true, true, true, true, true, true, false, false, false, false, false, false, false, false, false, false, false, false, false, false, false, false, false, false, false, false, false, false, false, false, false, false, false]) (fuel := 27) kr kr (by rfl) ?_
 intro a hS
 refine take T [8] [4, 5] [2, 3, 4, 38] hS kr kr kr hH (listed' := #[true, true, true, true, true, true, true, true, true, false, false, false, false, false, false, false, false, false, false, false, false, false, false, false, false, false, false, false, false, false, false, false, false, false, false]) (fuel := 26) (sy' := ⟨[(2, I kind), (3, Pt 4 0), (4, Pt 5 0), (38, B ((r113.1 == r117.1) && (r113.2 == r117.2)))], [(4, (27, [I v_.Kind, I v_.At, I v_.Err, Sl a1 v_.Picks c1, Sl a2 v_.Proof c2])), (5, (27, [I w_.Kind, I w_.At, I w_.Err, Sl a3 w_.Picks c3, Sl a4 w_.Proof c4]))]⟩) (by as_aux_lemma => kernel_rfl) (by rfl) ?_
 intro a hS
 rcases Bool.eq_false_or_eq_true ((r113.1 == r117.1) && (r113.2 == r117.2)) with hb | hb
 ·replace hS := hS.lit (t := 38) kr hb
  replace hm := hm.1 hb
  refine take T [9, 11] [4, 5] [2, 3, 4, 38, 39, 41] hS kr kr kr hH (listed' := #[true, true, true, true, true, true, true, true, true, true, false, true, false, false, false, false, false, false, false, false, false, false, false, false, false, false, false, false, false, false, false, false, false, false, false]) (fuel := 24) (sy' := ⟨[(2, I kind), (3, Pt 4 0), (4, Pt 5 0), (38, B true), (39, V (.agg #[.int .i64 v_.Kind, .int .i64 v_.At, .int .i64 v_.Err, .slice a1 v_.Picks.length c1, .slice a2 v_.Proof.length c2])), (41, V (.agg #[.int .i64 v_.Kind, .int .i64 v_.At, .int .i64 v_.Err, .slice a1 v_.Picks.length c1, .slice a2 v_.Proof.length c2]))], [(4, (27, [I v_.Kind, I v_.At, I v_.Err, Sl a1 v_.Picks c1, Sl a2 v_.Proof c2])), (5, (27, [I w_.Kind, I w_.At, I w_.Err, Sl a3 w_.Picks c3, Sl a4 w_.Proof c4]))]⟩) (by as_aux_lemma => kernel_rfl) (by rfl) ?_
  intro a hS
  refine only 10 kr (by rfl) (call hS kr kr hb12 kr (fun _ _ => rfl) (k12 _ _ v_ a1 c1 a2 c2 h102 h103) ?_)
  intro v120 a w121 χ122 hE hp hS
  replace hO := hO.mv hE rfl rfl
  replace hD := hD.ev hE rfl
  replace h102 := h102.mv hE rfl
  replace h103 := h103.mv hE rfl
  replace h104 := h104.mv hE rfl
  replace h105 := h105.mv hE rfl
  replace hAmb := hAmb.mv hE rfl
  obtain ⟨r123, hr⟩ : ∃ r, verdict_Check v_ = r := ⟨_, rfl⟩
  replace hm := hm r123 hr
  rw [hr] at hp
  clear hr
  subst hp
  replace hS := hS.sl ⟨[(2, I kind), (3, Pt 4 0), (4, Pt 5 0), (38, B true), (39, V (.agg #[.int .i64 v_.Kind, .int .i64 v_.At, .int .i64 v_.Err, .slice a1 v_.Picks.length c1, .slice a2 v_.Proof.length c2])), (41, V (.agg #[.int .i64 v_.Kind, .int .i64 v_.At, .int .i64 v_.Err, .slice a1 v_.Picks.length c1, .slice a2 v_.Proof.length c2])), (40, I r123)], [(4, (27, [I v_.Kind, I v_.At, I v_.Err, Sl a1 v_.Picks c1, Sl a2 v_.Proof c2])), (5, (27, [I w_.Kind, I w_.At, I w_.Err, Sl a3 w_.Picks c3, Sl a4 w_.Proof c4]))]⟩
  refine andH (Hold.of hS (bks := [4, 5]) kr hD) ?_
  intro hH
  refine only 12 kr (by rfl) (call hS kr kr hb13 kr (fun _ _ => rfl) (k13 _ _ v_ a1 c1 a2 c2 h102 h103) ?_)
  intro v124 a w125 χ126 hE hp hS
  replace hO := hO.mv hE rfl rfl
  replace hD := hD.ev hE rfl
  replace h102 := h102.mv hE rfl
  replace h103 := h103.mv hE rfl
  replace h104 := h104.mv hE rfl
  replace h105 := h105.mv hE rfl
  replace hAmb := hAmb.mv hE rfl
  obtain ⟨r127, hr⟩ : ∃ r, ref39_Check v_ = r := ⟨_, rfl⟩
  replace hm := hm r127 hr
  rw [hr] at hp
  clear hr
  subst hp
  replace hS := hS.sl ⟨[(2, I kind), (3, Pt 4 0), (4, Pt 5 0), (38, B true), (39, V (.agg #[.int .i64 v_.Kind, .int .i64 v_.At, .int .i64 v_.Err, .slice a1 v_.Picks.length c1, .slice a2 v_.Proof.length c2])), (41, V (.agg #[.int .i64 v_.Kind, .int .i64 v_.At, .int .i64 v_.Err, .slice a1 v_.Picks.length c1, .slice a2 v_.Proof.length c2])), (40, I r123), (42, I r127)], [(4, (27, [I v_.Kind, I v_.At, I v_.Err, Sl a1 v_.Picks c1, Sl a2 v_.Proof c2])), (5, (27, [I w_.Kind, I w_.At, I w_.Err, Sl a3 w_.Picks c3, Sl a4 w_.Proof c4]))]⟩
  refine andH (Hold.of hS (bks := [4, 5]) kr hD) ?_
  intro hH
  refine take T [13, 14, 15] [4, 5] [2, 3, 4, 45] hS kr kr kr hH (listed' := #[true, true, true, true, true, true, true, true, true, true, true, true, true, true, true, true, false, false, false, false, false, false, false, false, false, false, false, false, false, false, false, false, false, false, false]) (fuel := 19) (sy' := ⟨[(2, I kind), (3, Pt 4 0), (4, Pt 5 0), (45, B (r123 == r127))], [(4, (27, [I v_.Kind, I v_.At, I v_.Err, Sl a1 v_.Picks c1, Sl a2 v_.Proof c2])), (5, (27, [I w_.Kind, I w_.At, I w_.Err, Sl a3 w_.Picks c3, Sl a4 w_.Proof c4]))]⟩) (by as_aux_lemma => kernel_rfl) (by rfl) ?_
  intro a hS
  rcases Bool.eq_false_or_eq_true (r123 == r127) with hb | hb
  ·replace hS := hS.lit (t := 45) kr hb
   replace hm := hm.1 hb
   refine take T [16, 17, 19, 20] [4, 5] [2, 45, 46, 47, 49, 50] hS kr kr kr hH (listed' := #[true, true, true, true, true, true, true, true, true, true, true, true, true, true, true, true, true, true, false, true, true, false, false, false, false, false, false, false, false, false, false, false, false, false, false]) (fuel := 15) (sy' := ⟨[(2, I kind), (45, B true), (46, V (.agg #[.int .i64 v_.Kind, .int .i64 v_.At, .int .i64 v_.Err, .slice a1 v_.Picks.length c1, .slice a2 v_.Proof.length c2])), (47, V (.agg #[.int .i64 w_.Kind, .int .i64 w_.At, .int .i64 w_.Err, .slice a3 w_.Picks.length c3, .slice a4 w_.Proof.length c4])), (49, V (.agg #[.int .i64 v_.Kind, .int .i64 v_.At, .int .i64 v_.Err, .slice a1 v_.Picks.length c1, .slice a2 v_.Proof.length c2])), (50, V (.agg #[.int .i64 w_.Kind, .int .i64 w_.At, .int .i64 w_.Err, .slice a3 w_.Picks.length c3, .slice a4 w_.Proof.length c4]))], [(4, (27, [I v_.Kind, I v_.At, I v_.Err, Sl a1 v_.Picks c1, Sl a2 v_.Proof c2])), (5, (27, [I w_.Kind, I w_.At, I w_.Err, Sl a3 w_.Picks c3, Sl a4 w_.Proof c4]))]⟩) (by as_aux_lemma => kernel_rfl) (by rfl) ?_
   intro a hS
   refine only 18 kr (by rfl) (call hS kr kr hb14 kr (fun _ _ => rfl) (k14 _ _ v_ w_ a1 c1 a2 c2 a3 c3 a4 c4 h102 h103 h104 h105) ?_)
   intro v128 a w129 χ130 hE hp hS
   replace hO := hO.mv hE rfl rfl
   replace hD := hD.ev hE rfl
   replace h102 := h102.mv hE rfl
   replace h103 := h103.mv hE rfl
   replace h104 := h104.mv hE rfl
   replace h105 := h105.mv hE rfl
   replace hAmb := hAmb.mv hE rfl
   obtain ⟨r131, hr⟩ : ∃ r, verdict_Same v_ w_ = r := ⟨_, rfl⟩
   replace hm := hm r131 hr
   rw [hr] at hp
   clear hr
   subst hp
   replace hS := hS.sl ⟨[(2, I kind), (45, B true), (46, V (.agg #[.int .i64 v_.Kind, .int .i64 v_.At, .int .i64 v_.Err, .slice a1 v_.Picks.length c1, .slice a2 v_.Proof.length c2])), (47, V (.agg #[.int .i64 w_.Kind, .int .i64 w_.At, .int .i64 w_.Err, .slice a3 w_.Picks.length c3, .slice a4 w_.Proof.length c4])), (49, V (.agg #[.int .i64 v_.Kind, .int .i64 v_.At, .int .i64 v_.Err, .slice a1 v_.Picks.length c1, .slice a2 v_.Proof.length c2])), (50, V (.agg #[.int .i64 w_.Kind, .int .i64 w_.At, .int .i64 w_.Err, .slice a3 w_.Picks.length c3, .slice a4 w_.Proof.length c4])), (48, B r131)], [(4, (27, [I v_.Kind, I v_.At, I v_.Err, Sl a1 v_.Picks c1, Sl a2 v_.Proof c2])), (5, (27, [I w_.Kind, I w_.At, I w_.Err, Sl a3 w_.Picks c3, Sl a4 w_.Proof c4]))]⟩
   refine andH (Hold.of hS (bks := [4, 5]) kr hD) ?_
   intro hH
   refine only 21 kr (by rfl) (call hS kr kr hb8 kr (fun _ _ => rfl) (k8 _ _ v_ w_ a1 c1 a2 c2 a3 c3 a4 c4 h102 h103 h104 h105) ?_)
   intro v132 a w133 χ134 hE hp hS
   replace hO := hO.mv hE rfl rfl
   replace hD := hD.ev hE rfl
   replace h102 := h102.mv hE rfl
   replace h103 := h103.mv hE rfl
   replace h104 := h104.mv hE rfl
   replace h105 := h105.mv hE rfl
   replace hAmb := hAmb.mv hE rfl
   obtain ⟨r135, hr⟩ : ∃ r, ref39_Same v_ w_ = r := ⟨_, rfl⟩
   replace hm := hm r135 hr
   rw [hr] at hp
   clear hr
   subst hp
   replace hS := hS.sl ⟨[(2, I kind), (45, B true), (46, V (.agg #[.int .i64 v_.Kind, .int .i64 v_.At, .int .i64 v_.Err, .slice a1 v_.Picks.length c1, .slice a2 v_.Proof.length c2])), (47, V (.agg #[.int .i64 w_.Kind, .int .i64 w_.At, .int .i64 w_.Err, .slice a3 w_.Picks.length c3, .slice a4 w_.Proof.length c4])), (49, V (.agg #[.int .i64 v_.Kind, .int .i64 v_.At, .int .i64 v_.Err, .slice a1 v_.Picks.length c1, .slice a2 v_.Proof.length c2])), (50, V (.agg #[.int .i64 w_.Kind, .int .i64 w_.At, .int .i64 w_.Err, .slice a3 w_.Picks.length c3, .slice a4 w_.Proof.length c4])), (48, B r131), (51, B r135)], [(4, (27, [I v_.Kind, I v_.At, I v_.Err, Sl a1 v_.Picks c1, Sl a2 v_.Proof c2])), (5, (27, [I w_.Kind, I w_.At, I w_.Err, Sl a3 w_.Picks c3, Sl a4 w_.Proof c4]))]⟩
   refine andH (Hold.of hS (bks := [4, 5]) kr hD) ?_
   intro hH
   refine take T [22, 23, 24] [4, 5] [2, 54] hS kr kr kr hH (listed' := #[true, true, true, true, true, true, true, true, true, true, true, true, true, true, true, true, true, true, true, true, true, true, true, true, true, false, false, false, false, false, false, false, false, false, false]) (fuel := 10) (sy' := ⟨[(2, I kind), (54, B (r131 == r135))], [(4, (27, [I v_.Kind, I v_.At, I v_.Err, Sl a1 v_.Picks c1, Sl a2 v_.Proof c2])), (5, (27, [I w_.Kind, I w_.At, I w_.Err, Sl a3 w_.Picks c3, Sl a4 w_.Proof c4]))]⟩) (by as_aux_lemma => kernel_rfl) (by rfl) ?_
   intro a hS
   rcases Bool.eq_false_or_eq_true (r131 == r135) with hb | hb
   ·replace hS := hS.lit (t := 54) kr hb
    replace hm := hm.1 hb
    refine take T [25, 27] [4, 5] [54, 55, 57] hS kr kr kr hH (listed' := #[true, true, true, true, true, true, true, true, true, true, true, true, true, true, true, true, true, true, true, true, true, true, true, true, true, true, false, true, false, false, false, false, false, false, false]) (fuel := 8) (sy' := ⟨[(54, B true), (55, I kind), (57, I kind)], [(4, (27, [I v_.Kind, I v_.At, I v_.Err, Sl a1 v_.Picks c1, Sl a2 v_.Proof c2])), (5, (27, [I w_.Kind, I w_.At, I w_.Err, Sl a3 w_.Picks c3, Sl a4 w_.Proof c4]))]⟩) (by as_aux_lemma => kernel_rfl) (by rfl) ?_
    intro a hS
    refine only 26 kr (by rfl) (call hS kr kr hb15 kr (fun _ _ => rfl) (k15 _ _ kind) ?_)
    intro v136 a w137 χ138 hE hp hS
    replace hO := hO.mv hE rfl rfl
    replace hD := hD.ev hE rfl
    replace h102 := h102.mv hE rfl
    replace h103 := h103.mv hE rfl
    replace h104 := h104.mv hE rfl
    replace h105 := h105.mv hE rfl
    replace hAmb := hAmb.mv hE rfl
    obtain ⟨r139, hr⟩ : ∃ r, verdict_Word kind = r := ⟨_, rfl⟩
    replace hm := hm r139 hr
    rw [hr] at hp
    clear hr
    subst hp
    replace hS := hS.sl ⟨[(54, B true), (55, I kind), (57, I kind), (56, Z r139)], [(4, (27, [I v_.Kind, I v_.At, I v_.Err, Sl a1 v_.Picks c1, Sl a2 v_.Proof c2])), (5, (27, [I w_.Kind, I w_.At, I w_.Err, Sl a3 w_.Picks c3, Sl a4 w_.Proof c4]))]⟩
    refine andH (Hold.of hS (bks := [4, 5]) kr hD) ?_
    intro hH
    refine only 28 kr (by rfl) (call hS kr kr hb16 kr (fun _ _ => rfl) (k16 _ _ kind) ?_)
    intro v140 a w141 χ142 hE hp hS
    replace hO := hO.mv hE rfl rfl
    replace hD := hD.ev hE rfl
    replace h102 := h102.mv hE rfl
    replace h103 := h103.mv hE rfl
    replace h104 := h104.mv hE rfl
    replace h105 := h105.mv hE rfl
    replace hAmb := hAmb.mv hE rfl
    obtain ⟨r143, hr⟩ : ∃ r, ref39_Word kind = r := ⟨_, rfl⟩
    replace hm := hm r143 hr
    rw [hr] at hp
    clear hr
    subst hp
    replace hS := hS.sl ⟨[(54, B true), (55, I kind), (57, I kind), (56, Z r139), (58, Z r143)], [(4, (27, [I v_.Kind, I v_.At, I v_.Err, Sl a1 v_.Picks c1, Sl a2 v_.Proof c2])), (5, (27, [I w_.Kind, I w_.At, I w_.Err, Sl a3 w_.Picks c3, Sl a4 w_.Proof c4]))]⟩
    refine andH (Hold.of hS (bks := [4, 5]) kr hD) ?_
    intro hH
    refine take T [29, 30, 31] [4, 5] [61] hS kr kr kr hH (listed' := #[true, true, true, true, true, true, true, true, true, true, true, true, true, true, true, true, true, true, true, true, true, true, true, true, true, true, true, true, true, true, true, true, false, false, false]) (fuel := 3) (sy' := ⟨[(61, B (r139 == r143))], [(4, (27, [I v_.Kind, I v_.At, I v_.Err, Sl a1 v_.Picks c1, Sl a2 v_.Proof c2])), (5, (27, [I w_.Kind, I w_.At, I w_.Err, Sl a3 w_.Picks c3, Sl a4 w_.Proof c4]))]⟩) (by as_aux_lemma => kernel_rfl) (by rfl) ?_
    intro a hS
    rcases Bool.eq_false_or_eq_true (r139 == r143) with hb | hb
    ·replace hS := hS.lit (t := 61) kr hb
     replace hm := hm.1 hb
     refine only 32 kr (by rfl) (call hS kr kr hb5 kr (fun _ _ => rfl) (k5 _ _ hAmb) ?_)
     intro v144 a w145 χ146 hE hp hS
     replace hO := hO.mv hE rfl rfl
     replace hD := hD.ev hE rfl
     replace h102 := h102.mv hE rfl
     replace h103 := h103.mv hE rfl
     replace h104 := h104.mv hE rfl
     replace h105 := h105.mv hE rfl
     replace hAmb := hAmb.mv hE rfl
     obtain ⟨r147, hr⟩ : ∃ r, law39_awake = r := ⟨_, rfl⟩
     replace hm := hm r147 hr
     rw [hr] at hp
     clear hr
     subst hp
     replace hS := hS.sl ⟨[(61, B true), (62, B r147)], [(4, (27, [I v_.Kind, I v_.At, I v_.Err, Sl a1 v_.Picks c1, Sl a2 v_.Proof c2])), (5, (27, [I w_.Kind, I w_.At, I w_.Err, Sl a3 w_.Picks c3, Sl a4 w_.Proof c4]))]⟩
     refine andH (Hold.of hS (bks := [4, 5]) kr hD) ?_
     intro hH
     refine take T [33, 34] [4, 5] [6] hS kr kr kr hH (listed' := #[true, true, true, true, true, true, true, true, true, true, true, true, true, true, true, true, true, true, true, true, true, true, true, true, true, true, true, true, true, true, true, true, true, true, true]) (fuel := 0) (sy' := ⟨[(6, B r147)], [(4, (27, [I v_.Kind, I v_.At, I v_.Err, Sl a1 v_.Picks c1, Sl a2 v_.Proof c2])), (5, (27, [I w_.Kind, I w_.At, I w_.Err, Sl a3 w_.Picks c3, Sl a4 w_.Proof c4]))]⟩) (by as_aux_lemma => kernel_rfl) (by rfl) ?_
     intro a hS
     refine drawnDone kr ?_
     clear hD hH
     replace hS := hS.sl ⟨[(6, B r147)], []⟩
     refine wret ?_
     exact fin T hS hO (fun c => c) rfl (r := [.bool r147]) kr (fun χ' hM hC => ⟨r147, hm, rfl⟩)
    replace hS := hS.lit (t := 61) kr hb
    replace hm := hm.2 hb
    refine take T [32, 33, 34] [4, 5] [6] hS kr kr kr hH (listed' := #[true, true, true, true, true, true, true, true, true, true, true, true, true, true, true, true, true, true, true, true, true, true, true, true, true, true, true, true, true, true, true, true, true, true, true]) (fuel := 0) (sy' := ⟨[(6, B false)], [(4, (27, [I v_.Kind, I v_.At, I v_.Err, Sl a1 v_.Picks c1, Sl a2 v_.Proof c2])), (5, (27, [I w_.Kind, I w_.At, I w_.Err, Sl a3 w_.Picks c3, Sl a4 w_.Proof c4]))]⟩) (by as_aux_lemma => kernel_rfl) (by rfl) ?_
    intro a hS
    refine drawnDone kr ?_
    clear hD hH
    replace hS := hS.sl ⟨[(6, B false)], []⟩
    refine wret ?_
    exact fin T hS hO (fun c => c) rfl (r := [.bool false]) kr (fun χ' hM hC => ⟨false, hm, rfl⟩)
   replace hS := hS.lit (t := 54) kr hb
   replace hm := hm.2 hb
   refine take T [25, 27, 26, 28, 29, 30, 31, 32, 33, 34] [4, 5] [6] hS kr kr kr hH (listed' := #[true, true, true, true, true, true, true, true, true, true, true, true, true, true, true, true, true, true, true, true, true, true, true, true, true, true, true, true, true, true, true, true, true, true, true]) (fuel := 0) (sy' := ⟨[(6, B false)], [(4, (27, [I v_.Kind, I v_.At, I v_.Err, Sl a1 v_.Picks c1, Sl a2 v_.Proof c2])), (5, (27, [I w_.Kind, I w_.At, I w_.Err, Sl a3 w_.Picks c3, Sl a4 w_.Proof c4]))]⟩) (by as_aux_lemma => kernel_rfl) (by rfl) ?_
   intro a hS
   refine drawnDone kr ?_
   clear hD hH
   replace hS := hS.sl ⟨[(6, B false)], []⟩
   refine wret ?_
   exact fin T hS hO (fun c => c) rfl (r := [.bool false]) kr (fun χ' hM hC => ⟨false, hm, rfl⟩)
  replace hS := hS.lit (t := 45) kr hb
  replace hm := hm.2 hb
  refine take T [16, 17, 19, 20, 18, 21, 22, 23, 24, 25, 27, 26, 28, 29, 30, 31, 32, 33, 34] [4, 5] [6] hS kr kr kr hH (listed' := #[true, true, true, true, true, true, true, true, true, true, true, true, true, true, true, true, true, true, true, true, true, true, true, true, true, true, true, true, true, true, true, true, true, true, true]) (fuel := 0) (sy' := ⟨[(6, B false)], [(4, (27, [I v_.Kind, I v_.At, I v_.Err, Sl a1 v_.Picks c1, Sl a2 v_.Proof c2])), (5, (27, [I w_.Kind, I w_.At, I w_.Err, Sl a3 w_.Picks c3, Sl a4 w_.Proof c4]))]⟩) (by as_aux_lemma => kernel_rfl) (by rfl) ?_
  intro a hS
  refine drawnDone kr ?_
  clear hD hH
  replace hS := hS.sl ⟨[(6, B false)], []⟩
  refine wret ?_
  exact fin T hS hO (fun c => c) rfl (r := [.bool false]) kr (fun χ' hM hC => ⟨false, hm, rfl⟩)
 replace hS := hS.lit (t := 38) kr hb
 replace hm := hm.2 hb
 refine take T [9, 11, 10, 12, 13, 14, 15, 16, 17, 19, 20, 18, 21, 22, 23, 24, 25, 27, 26, 28, 29, 30, 31, 32, 33, 34] [4, 5] [6] hS kr kr kr hH (listed' := #[true, true, true, true, true, true, true, true, true, true, true, true, true, true, true, true, true, true, true, true, true, true, true, true, true, true, true, true, true, true, true, true, true, true, true]) (fuel := 0) (sy' := ⟨[(6, B false)], [(4, (27, [I v_.Kind, I v_.At, I v_.Err, Sl a1 v_.Picks c1, Sl a2 v_.Proof c2])), (5, (27, [I w_.Kind, I w_.At, I w_.Err, Sl a3 w_.Picks c3, Sl a4 w_.Proof c4]))]⟩) (by as_aux_lemma => kernel_rfl) (by rfl) ?_
 intro a hS
 refine drawnDone kr ?_
 clear hD hH
 replace hS := hS.sl ⟨[(6, B false)], []⟩
 refine wret ?_
 exact fin T hS hO (fun c => c) rfl (r := [.bool false]) kr (fun χ' hM hC => ⟨false, hm, rfl⟩)
end Go.Proofs.YtkgcdoeldilhaaaGreatDoor
