/- Walks: each function returns what its condition asks. Condition: the contracts of its callees, handed in. -/
import Derived.Test.YtkgcdoeldilhaaaDoorNWalksS
set_option linter.all false
namespace Go.Proofs.YtkgcdoeldilhaaaDoor
open Go Go.Sv
set_option maxHeartbeats 1000000
/-- replevin/replevinlaw10.Few -/
theorem W11 (w0 : World) (χ0 : Nat → Nat) (l_ : List Api_Step) (a1 : Option Addr) (c1 : Nat) (Q : Bool → Prop) (hm : VC11 l_ Q) (h1 : RS tApi_Step w0 χ0 a1 l_ c1) :
  Ret Tryd.prog 11 #[.slice a1 l_.length c1] xnone w0 χ0 (fun w χ' v => ∃ r, Q r ∧ v = .bool r) := by
 unfold VC11 at hm
 replace hm := hm (h1.sm kr)
 refine enter Tryd.func11 rfl (vals := [.slice a1 l_.length c1]) kr ?_
 intro ρ a hS hO hM
 replace h1 := h1.m0 hM
 clear hM
 refine rP T hS ⟨[(0, Sl a1 l_ c1)], []⟩ fun a hS => ?_
 refine wseq ?_
 refine rP T hS ⟨[(0, Sl a1 l_ c1), (6, B (decide (((l_.length : Nat) : Int) > 200)))], []⟩ fun a hS => ?_
 refine wcond hS (b := decide (((l_.length : Nat) : Int) > 200)) kr (fun hb => ?_) (fun hb => ?_)
 ·replace hm := hm.1 hb
  refine rP T hS ⟨[(2, B false)], []⟩ fun a hS => ?_
  refine wret ?_
  exact fin T hS hO (fun c => c) rfl (r := [.bool false]) kr (fun χ' hM hC => ⟨false, hm, rfl⟩)
 ·replace hm := hm.2 hb
  refine wskip ?_
  refine wcut (fun a w => ∃ (ρ : Nat → Nat) (χ : Nat → Nat), VC11_J1 Q ∧ St Tryd.f11.ntmps ⟨[], []⟩ ρ a w χ ∧ Old w0 χ0 w χ) ?_ ?_
  ·refine rP T hS ⟨[(0, Sl a1 l_ c1), (3, I 0)], []⟩ fun a hS => ?_
   refine wblock ?_
   obtain ⟨I1, μ1, hm0, hm⟩ := hm
   refine wloop (σ := Int) (fun s a w => ∃ (ρ : Nat → Nat) (χ : Nat → Nat), I1 s ∧ St Tryd.f11.ntmps ⟨[(0, Sl a1 l_ c1), (3, I s)], []⟩ ρ a w χ ∧ Old w0 χ0 w χ ∧ RS tApi_Step w χ a1 l_ c1) (fun s => μ1 s) (0) ?_ ?_
   ·exact ⟨ρ, _, hm0, hS.sl _, hO, h1⟩
   ·rintro i_102 a w124 ⟨ρ, χ123, hI, hS, hO, h101⟩
    replace hm := hm i_102 hI
    clear hI hm0
    refine wseq ?_
    refine rP T hS ⟨[(0, Sl a1 l_ c1), (3, I i_102), (10, B (decide (i_102 < ((l_.length : Nat) : Int))))], []⟩ fun a hS => ?_
    refine wcond hS (b := decide (i_102 < ((l_.length : Nat) : Int))) kr (fun hb => ?_) (fun hb => ?_)
    ·replace hm := hm.1 hb
     refine wskip ?_
     refine wseq ?_
     refine wblock ?_
     refine wcut (fun a w => ∃ (ρ : Nat → Nat) (χ : Nat → Nat) (x_104 : Bool), VC11_J2 Q I1 μ1 i_102 x_104 ∧ St Tryd.f11.ntmps ⟨[(0, Sl a1 l_ c1), (3, I i_102), (28, B x_104)], []⟩ ρ a w χ ∧ Old w0 χ0 w χ ∧ RS tApi_Step w χ a1 l_ c1) ?_ ?_
     ·refine region ?_
      refine oP T hS 2 ⟨[(0, Sl a1 l_ c1), (3, I i_102), (13, Sl a1 l_ c1), (14, I i_102)], []⟩ fun a hS => ?_
      obtain ⟨hq, hm⟩ := hm
      refine op1 (index (e := 65) (k := .i64) T hS kr kr kr kr h101 kr kr hq.1 hq.2 ?_)
      intro A105 a h106 hS
      clear hq
      refine op1 (fieldA (off := 2) (fsz := 1) (ft := 51) (TF := (tSlice tI)) (y := (gi l_ i_102).Lits) T hS kr kr kr h106 kr kr kr (fun cs h => Api_Step_f2 h) ?_)
      intro A107 a h108 hS
      refine op1 (load1 T hS kr kr kr h108 rfl kr ?_)
      intro v109 a hv hS
      obtain ⟨a110, c111, hv, h112⟩ := hv
      cases hv
      replace hm := hm (h112.sm kr)
      refine oP T hS 3 ⟨[(0, Sl a1 l_ c1), (3, I i_102), (20, B (decide (((((gi l_ i_102).Lits).length : Nat) : Int) > 60)))], []⟩ fun a hS => ?_
      rcases Bool.eq_false_or_eq_true (decide (((((gi l_ i_102).Lits).length : Nat) : Int) > 60)) with hb | hb
      ·replace hS := hS.lit (t := 20) kr hb
       replace hm := hm.1 hb
       refine eP T hS ⟨[(0, Sl a1 l_ c1), (3, I i_102), (28, B true)], []⟩ fun a hS => ?_
       exact ⟨ρ, _, true, hm, hS.sl _, hO, h101⟩
      ·replace hS := hS.lit (t := 20) kr hb
       replace hm := hm.2 hb
       refine oP T hS 2 ⟨[(0, Sl a1 l_ c1), (3, I i_102), (20, B false), (21, Sl a1 l_ c1), (22, I i_102)], []⟩ fun a hS => ?_
       obtain ⟨hq, hm⟩ := hm
       refine op1 (index (e := 65) (k := .i64) T hS kr kr kr kr h101 kr kr hq.1 hq.2 ?_)
       intro A113 a h114 hS
       clear hq
       refine op1 (fieldA (off := 3) (fsz := 1) (ft := 51) (TF := (tSlice tI)) (y := (gi l_ i_102).Hints) T hS kr kr kr h114 kr kr kr (fun cs h => Api_Step_f3 h) ?_)
       intro A115 a h116 hS
       refine op1 (load1 T hS kr kr kr h116 rfl kr ?_)
       intro v117 a hv hS
       obtain ⟨a118, c119, hv, h120⟩ := hv
       cases hv
       replace hm := hm (h120.sm kr)
       refine eP T hS ⟨[(0, Sl a1 l_ c1), (3, I i_102), (21, Sl a1 l_ c1), (22, I i_102), (23, V (.pointer (some A113))), (24, V (.pointer (some A115))), (25, Sl a118 ((gi l_ i_102).Hints) c119), (26, I ((((gi l_ i_102).Hints).length : Nat) : Int)), (27, B (decide (((((gi l_ i_102).Hints).length : Nat) : Int) > 200))), (28, B (decide (((((gi l_ i_102).Hints).length : Nat) : Int) > 200)))], []⟩ fun a hS => ?_
       exact ⟨ρ, _, decide (((((gi l_ i_102).Hints).length : Nat) : Int) > 200), hm, hS.sl _, hO, h101⟩
     ·rintro a w122 ⟨ρ, χ121, x_104, hm, hS, hO, h103⟩
      unfold VC11_J2 at hm
      refine wcond hS (b := x_104) kr (fun hb => ?_) (fun hb => ?_)
      ·replace hm := hm.1 hb
       refine rP T hS ⟨[(2, B false)], []⟩ fun a hS => ?_
       refine wret ?_
       exact fin T hS hO (fun c => c) rfl (r := [.bool false]) kr (fun χ' hM hC => ⟨false, hm, rfl⟩)
      ·replace hm := hm.2 hb
       refine wskip ?_
       refine region (eP T hS ⟨[(0, Sl a1 l_ c1), (3, I (IntKind.i64.wrap (i_102 + 1)))], []⟩ fun a hS => ?_)
       exact ⟨IntKind.i64.wrap (i_102 + 1), ⟨ρ, _, hm.1, hS.sl _, hO, h103⟩, hm.2⟩
    ·replace hm := hm.2 hb
     refine wexit (by rfl) ?_
     exact ⟨ρ, _, hm, hS.sl _, hO⟩
  ·rintro a w126 ⟨ρ, χ125, hm, hS, hO⟩
   unfold VC11_J1 at hm
   refine rP T hS ⟨[(2, B true)], []⟩ fun a hS => ?_
   refine wret ?_
   exact fin T hS hO (fun c => c) rfl (r := [.bool true]) kr (fun χ' hM hC => ⟨true, hm, rfl⟩)
theorem C11 (v : ∀ (l_ : List Api_Step), VC11 l_ (fun r => r = law10_Few l_)) : S11 := by
 intro w χ l_ a1 c1   h1
 refine (W11 w χ l_ a1 c1   _ (v l_) h1).mono ?_
 rintro _ _ _ _ ⟨r, rfl, h⟩
 exact h
/-- replevin/replevinlaw39.Few -/
theorem W5 (k11 : S11) (w0 : World) (χ0 : Nat → Nat) (v_ : Api_Verdict) (a1 : Option Addr) (c1 : Nat) (a2 : Option Addr) (c2 : Nat) (Q : Bool → Prop) (hm : VC5 v_ Q) (h1 : RS tApi_Pick w0 χ0 a1 v_.Picks c1) (h2 : RS tApi_Step w0 χ0 a2 v_.Proof c2) :
  Ret Tryd.prog 5 #[.agg #[.int .i64 v_.Kind, .int .i64 v_.At, .int .i64 v_.Err, .slice a1 v_.Picks.length c1, .slice a2 v_.Proof.length c2]] xnone w0 χ0 (fun w χ' v => ∃ r, Q r ∧ v = .bool r) := by
 unfold VC5 at hm
 replace hm := hm (h1.sm kr)
 replace hm := hm (h2.sm kr)
 refine enter Tryd.func5 rfl (vals := [.agg #[.int .i64 v_.Kind, .int .i64 v_.At, .int .i64 v_.Err, .slice a1 v_.Picks.length c1, .slice a2 v_.Proof.length c2]]) kr ?_
 intro ρ a hS hO hM
 replace h1 := h1.m0 hM
 replace h2 := h2.m0 hM
 clear hM
 refine rM T hS ⟨[(1, Pt 2 0)], [(2, (26, [I v_.Kind, I v_.At, I v_.Err, Sl a1 v_.Picks c1, Sl a2 v_.Proof c2]))]⟩ fun ρ a w105 χ106 hS hE hr => ?_
 replace hO := hO.mv hE rfl rfl
 replace h1 := h1.mv hE rfl
 replace h2 := h2.mv hE rfl
 clear hE hr
 refine regO ?_
 refine oP T hS 5 ⟨[(1, Pt 2 0), (7, B (decide (((v_.Picks.length : Nat) : Int) ≤ 100)))], [(2, (26, [I v_.Kind, I v_.At, I v_.Err, Sl a1 v_.Picks c1, Sl a2 v_.Proof c2]))]⟩ fun a hS => ?_
 rcases Bool.eq_false_or_eq_true (decide (((v_.Picks.length : Nat) : Int) ≤ 100)) with hb | hb
 ·replace hS := hS.lit (t := 7) kr hb
  replace hm := hm.1 hb
  refine oP T hS 2 ⟨[(7, B true), (9, Sl a2 v_.Proof c2)], []⟩ fun a hS => ?_
  refine op1 (call hS kr kr hb11 kr (fun _ _ => rfl) (k11 _ _ v_.Proof a2 c2 h2) ?_)
  intro v101 a w102 χ103 hE hp hS
  replace hO := hO.mv hE rfl rfl
  replace h2 := h2.mv hE rfl
  clear hE
  obtain ⟨r104, hr⟩ : ∃ r, law10_Few v_.Proof = r := ⟨_, rfl⟩
  replace hm := hm r104 hr
  rw [hr] at hp
  clear hr
  subst hp
  refine eP T hS ⟨[(2, B r104)], []⟩ fun a hS => ?_
  refine wret ?_
  exact fin T hS hO (fun c => c) rfl (r := [.bool r104]) kr (fun χ' hM hC => ⟨r104, hm, rfl⟩)
 ·replace hS := hS.lit (t := 7) kr hb
  replace hm := hm.2 hb
  refine eP T hS ⟨[(2, B false)], []⟩ fun a hS => ?_
  refine wret ?_
  exact fin T hS hO (fun c => c) rfl (r := [.bool false]) kr (fun χ' hM hC => ⟨false, hm, rfl⟩)
theorem C5 (k11 : S11) (v : ∀ (v_ : Api_Verdict), VC5 v_ (fun r => r = law39_Few v_)) : S5 := by
 intro w χ v_ a1 c1 a2 c2   h1 h2
 refine (W5 k11 w χ v_ a1 c1 a2 c2   _ (v v_) h1 h2).mono ?_
 rintro _ _ _ _ ⟨r, rfl, h⟩
 exact h
/-- replevin/replevinlaw39.VerdictBack -/
theorem W3 (k10 : S10) (k5 : S5) (k6 : S6) (k7 : S7) (k8 : S8) (k9 : S9) (w0 : World) (χ0 : Nat → Nat) (v_ : Api_Verdict) (s_ : List UInt8) (a1 : Option Addr) (c1 : Nat) (a2 : Option Addr) (c2 : Nat) (Q : Bool → Prop) (hm : VC3 v_ s_ Q) (h1 : RS tApi_Pick w0 χ0 a1 v_.Picks c1) (h2 : RS tApi_Step w0 χ0 a2 v_.Proof c2) (hAmb : Amb w0 χ0) :
  Ret Tryd.prog 3 #[.agg #[.int .i64 v_.Kind, .int .i64 v_.At, .int .i64 v_.Err, .slice a1 v_.Picks.length c1, .slice a2 v_.Proof.length c2], .string (bs s_)] xnone w0 χ0 (fun w χ' v => ∃ r, Q r ∧ v = .bool r) := by
 unfold VC3 at hm
 replace hm := hm (h1.sm kr)
 replace hm := hm (h2.sm kr)
 refine enter Tryd.func3 rfl (vals := [.agg #[.int .i64 v_.Kind, .int .i64 v_.At, .int .i64 v_.Err, .slice a1 v_.Picks.length c1, .slice a2 v_.Proof.length c2], .string (bs s_)]) kr ?_
 intro ρ a hS hO hM
 replace h1 := h1.m0 hM
 replace h2 := h2.m0 hM
 replace hAmb := hAmb.m0 hM
 clear hM
 refine rM T hS ⟨[(1, Z s_), (2, Pt 3 0)], [(3, (26, [I v_.Kind, I v_.At, I v_.Err, Sl a1 v_.Picks c1, Sl a2 v_.Proof c2]))]⟩ fun ρ a w183 χ184 hS hE hr => ?_
 replace hO := hO.mv hE rfl rfl
 replace h1 := h1.mv hE rfl
 replace h2 := h2.mv hE rfl
 replace hAmb := hAmb.mv hE rfl
 clear hE hr
 refine wseq ?_
 refine regO ?_
 refine oP T hS 1 ⟨[(1, Z s_), (2, Pt 3 0), (18, V (.agg #[.int .i64 v_.Kind, .int .i64 v_.At, .int .i64 v_.Err, .slice a1 v_.Picks.length c1, .slice a2 v_.Proof.length c2]))], [(3, (26, [I v_.Kind, I v_.At, I v_.Err, Sl a1 v_.Picks c1, Sl a2 v_.Proof c2]))]⟩ fun a hS => ?_
 refine op1 (call hS kr kr hb5 kr (fun _ _ => rfl) (k5 _ _ v_ a1 c1 a2 c2 h1 h2) ?_)
 intro v101 a w102 χ103 hE hp hS
 replace hO := hO.mv hE rfl rfl
 replace h1 := h1.mv hE rfl
 replace h2 := h2.mv hE rfl
 replace hAmb := hAmb.mv hE rfl
 clear hE
 obtain ⟨r104, hr⟩ : ∃ r, law39_Few v_ = r := ⟨_, rfl⟩
 replace hm := hm r104 hr
 rw [hr] at hp
 clear hr
 subst hp
 refine eP T hS ⟨[(1, Z s_), (2, Pt 3 0), (25, B ((!r104) || (decide (((s_.length : Nat) : Int) > 3000))))], [(3, (26, [I v_.Kind, I v_.At, I v_.Err, Sl a1 v_.Picks c1, Sl a2 v_.Proof c2]))]⟩ (sp := [21]) fun a hS => ?_
 refine wcond hS (b := ((!r104) || (decide (((s_.length : Nat) : Int) > 3000)))) kr (fun hb => ?_) (fun hb => ?_)
 ·replace hm := hm.1 hb
  refine regO ?_
  refine op1 (call hS kr kr hb6 kr (fun _ _ => rfl) (k6 _ _ hAmb) ?_)
  intro v105 a w106 χ107 hE hp hS
  replace hO := hO.mv hE rfl rfl
  replace h1 := h1.mv hE rfl
  replace h2 := h2.mv hE rfl
  replace hAmb := hAmb.mv hE rfl
  clear hE
  obtain ⟨r108, hr⟩ : ∃ r, law39_awake = r := ⟨_, rfl⟩
  replace hm := hm r108 hr
  rw [hr] at hp
  clear hr
  subst hp
  refine eP T hS ⟨[(4, B r108)], []⟩ fun a hS => ?_
  refine wret ?_
  exact fin T hS hO (fun c => c) rfl (r := [.bool r108]) kr (fun χ' hM hC => ⟨r108, hm, rfl⟩)
 ·replace hm := hm.2 hb
  refine wskip ?_
  refine regO ?_
  refine oP T hS 1 ⟨[(1, Z s_), (2, Pt 3 0), (28, V (.agg #[.int .i64 v_.Kind, .int .i64 v_.At, .int .i64 v_.Err, .slice a1 v_.Picks.length c1, .slice a2 v_.Proof.length c2]))], [(3, (26, [I v_.Kind, I v_.At, I v_.Err, Sl a1 v_.Picks c1, Sl a2 v_.Proof c2]))]⟩ fun a hS => ?_
  refine op1 (call hS kr kr hb7 kr (fun _ _ => rfl) (k7 _ _ v_ a1 c1 a2 c2 h1 h2 hAmb) ?_)
  intro v109 a w110 χ111 hE hp hS
  replace hO := hO.mv hE rfl rfl
  replace h1 := h1.mv hE rfl
  replace h2 := h2.mv hE rfl
  replace hAmb := hAmb.mv hE rfl
  clear hE
  obtain ⟨r112, hr⟩ : ∃ r, verdict_Print v_ = r := ⟨_, rfl⟩
  replace hm := hm r112 hr
  rw [hr] at hp
  clear hr
  subst hp
  refine eP T hS ⟨[(1, Z s_), (2, Pt 3 0), (5, Z r112.1), (6, I r112.2)], [(3, (26, [I v_.Kind, I v_.At, I v_.Err, Sl a1 v_.Picks c1, Sl a2 v_.Proof c2]))]⟩ fun a hS => ?_
  refine wseq ?_
  refine regO ?_
  refine oP T hS 1 ⟨[(1, Z s_), (2, Pt 3 0), (5, Z r112.1), (6, I r112.2), (32, V (.agg #[.int .i64 v_.Kind, .int .i64 v_.At, .int .i64 v_.Err, .slice a1 v_.Picks.length c1, .slice a2 v_.Proof.length c2]))], [(3, (26, [I v_.Kind, I v_.At, I v_.Err, Sl a1 v_.Picks c1, Sl a2 v_.Proof c2]))]⟩ fun a hS => ?_
  refine op1 (call hS kr kr hb8 kr (fun _ _ => rfl) (k8 _ _ v_ a1 c1 a2 c2 h1 h2) ?_)
  intro v113 a w114 χ115 hE hp hS
  replace hO := hO.mv hE rfl rfl
  replace h1 := h1.mv hE rfl
  replace h2 := h2.mv hE rfl
  replace hAmb := hAmb.mv hE rfl
  clear hE
  obtain ⟨r116, hr⟩ : ∃ r, verdict_Check v_ = r := ⟨_, rfl⟩
  replace hm := hm r116 hr
  rw [hr] at hp
  clear hr
  subst hp
  refine eP T hS ⟨[(1, Z s_), (2, Pt 3 0), (5, Z r112.1), (6, I r112.2), (35, B (r116 != r112.2))], [(3, (26, [I v_.Kind, I v_.At, I v_.Err, Sl a1 v_.Picks c1, Sl a2 v_.Proof c2]))]⟩ fun a hS => ?_
  refine wcond hS (b := (r116 != r112.2)) kr (fun hb => ?_) (fun hb => ?_)
  ·replace hm := hm.1 hb
   refine rP T hS ⟨[(4, B false)], []⟩ fun a hS => ?_
   refine wret ?_
   exact fin T hS hO (fun c => c) rfl (r := [.bool false]) kr (fun χ' hM hC => ⟨false, hm, rfl⟩)
  ·replace hm := hm.2 hb
   refine wskip ?_
   refine wcut (fun a w => ∃ (ρ : Nat → Nat) (χ : Nat → Nat), VC3_J1 s_ Q ∧ St Tryd.f3.ntmps ⟨[(1, Z s_)], []⟩ ρ a w χ ∧ Old w0 χ0 w χ ∧ Amb w χ) ?_ ?_
   ·refine rP T hS ⟨[(1, Z s_), (2, Pt 3 0), (5, Z r112.1), (37, B (r112.2 == 0))], [(3, (26, [I v_.Kind, I v_.At, I v_.Err, Sl a1 v_.Picks c1, Sl a2 v_.Proof c2]))]⟩ fun a hS => ?_
    refine wcond hS (b := (r112.2 == 0)) kr (fun hb => ?_) (fun hb => ?_)
    ·replace hm := hm.1 hb
     refine regO ?_
     refine oP T hS 1 ⟨[(1, Z s_), (2, Pt 3 0), (5, Z r112.1), (39, Z r112.1)], [(3, (26, [I v_.Kind, I v_.At, I v_.Err, Sl a1 v_.Picks c1, Sl a2 v_.Proof c2]))]⟩ fun a hS => ?_
     refine op1 (call hS kr kr hb9 kr (fun _ _ => rfl) (k9 _ _ r112.1) ?_)
     intro v165 a w166 χ167 hE hp hS
     replace hO := hO.mv hE rfl rfl
     replace h1 := h1.mv hE rfl
     replace h2 := h2.mv hE rfl
     replace hAmb := hAmb.mv hE rfl
     clear hE
     obtain ⟨a169, c170, a172, c173, hp, h171, h174⟩ := hp
     obtain ⟨r168, hr⟩ : ∃ r, verdict_Parse r112.1 = r := ⟨_, rfl⟩
     replace hm := hm r168 hr
     rw [hr] at hp h171 h174
     clear hr
     subst hp
     replace hm := hm (h171.sm kr)
     replace hm := hm (h174.sm kr)
     refine eM T hS ⟨[(1, Z s_), (2, Pt 3 0), (5, Z r112.1), (7, Pt 8 0), (8, I r168.2.1), (9, I r168.2.2)], [(3, (26, [I v_.Kind, I v_.At, I v_.Err, Sl a1 v_.Picks c1, Sl a2 v_.Proof c2])), (8, (26, [I r168.1.Kind, I r168.1.At, I r168.1.Err, Sl a169 r168.1.Picks c170, Sl a172 r168.1.Proof c173]))]⟩ fun ρ a w179 χ180 hS hE hr => ?_
     replace hO := hO.mv hE rfl rfl
     replace h1 := h1.mv hE rfl
     replace h2 := h2.mv hE rfl
     replace hAmb := hAmb.mv hE rfl
     replace h171 := h171.mv hE rfl
     replace h174 := h174.mv hE rfl
     clear hE hr
     refine regO ?_
     refine oP T hS 2 ⟨[(1, Z s_), (5, Z r112.1), (8, I r168.2.1), (9, I r168.2.2), (44, V (.agg #[.int .i64 v_.Kind, .int .i64 v_.At, .int .i64 v_.Err, .slice a1 v_.Picks.length c1, .slice a2 v_.Proof.length c2])), (45, V (.agg #[.int .i64 r168.1.Kind, .int .i64 r168.1.At, .int .i64 r168.1.Err, .slice a169 r168.1.Picks.length c170, .slice a172 r168.1.Proof.length c173]))], []⟩ fun a hS => ?_
     refine op1 (call hS kr kr hb10 kr (fun _ _ => rfl) (k10 _ _ v_ r168.1 a1 c1 a2 c2 a169 c170 a172 c173 h1 h2 h171 h174) ?_)
     intro v175 a w176 χ177 hE hp hS
     replace hO := hO.mv hE rfl rfl
     replace h1 := h1.mv hE rfl
     replace h2 := h2.mv hE rfl
     replace hAmb := hAmb.mv hE rfl
     replace h171 := h171.mv hE rfl
     replace h174 := h174.mv hE rfl
     clear hE
     obtain ⟨r178, hr⟩ : ∃ r, verdict_Same v_ r168.1 = r := ⟨_, rfl⟩
     replace hm := hm r178 hr
     rw [hr] at hp
     clear hr
     subst hp
     refine eP T hS ⟨[(1, Z s_), (57, B (((!r178) || (r168.2.1 != ((r112.1.length : Nat) : Int))) || (r168.2.2 != 0)))], []⟩ (sp := [48, 54]) fun a hS => ?_
     refine wcond hS (b := (((!r178) || (r168.2.1 != ((r112.1.length : Nat) : Int))) || (r168.2.2 != 0))) kr (fun hb => ?_) (fun hb => ?_)
     ·replace hm := hm.1 hb
      refine rP T hS ⟨[(4, B false)], []⟩ fun a hS => ?_
      refine wret ?_
      exact fin T hS hO (fun c => c) rfl (r := [.bool false]) kr (fun χ' hM hC => ⟨false, hm, rfl⟩)
     ·replace hm := hm.2 hb
      refine wskip ?_
      exact ⟨ρ, _, hm, hS.sl _, hO, hAmb⟩
    ·replace hm := hm.2 hb
     refine wskip ?_
     exact ⟨ρ, _, hm, hS.sl _, hO, hAmb⟩
   ·rintro a w182 ⟨ρ, χ181, hm, hS, hO, hAmb⟩
    unfold VC3_J1 at hm
    refine regO ?_
    refine oP T hS 1 ⟨[(59, Z s_)], []⟩ fun a hS => ?_
    refine op1 (call hS kr kr hb9 kr (fun _ _ => rfl) (k9 _ _ s_) ?_)
    intro v117 a w118 χ119 hE hp hS
    replace hO := hO.mv hE rfl rfl
    replace hAmb := hAmb.mv hE rfl
    clear hE
    obtain ⟨a121, c122, a124, c125, hp, h123, h126⟩ := hp
    obtain ⟨r120, hr⟩ : ∃ r, verdict_Parse s_ = r := ⟨_, rfl⟩
    replace hm := hm r120 hr
    rw [hr] at hp h123 h126
    clear hr
    subst hp
    replace hm := hm (h123.sm kr)
    replace hm := hm (h126.sm kr)
    refine eM T hS ⟨[(10, Pt 11 0), (12, I r120.2.2)], [(11, (26, [I r120.1.Kind, I r120.1.At, I r120.1.Err, Sl a121 r120.1.Picks c122, Sl a124 r120.1.Proof c125]))]⟩ fun ρ a w163 χ164 hS hE hr => ?_
    replace hO := hO.mv hE rfl rfl
    replace hAmb := hAmb.mv hE rfl
    replace h123 := h123.mv hE rfl
    replace h126 := h126.mv hE rfl
    clear hE hr
    refine wseq ?_
    refine rP T hS ⟨[(10, Pt 11 0), (65, B (r120.2.2 != 0))], [(11, (26, [I r120.1.Kind, I r120.1.At, I r120.1.Err, Sl a121 r120.1.Picks c122, Sl a124 r120.1.Proof c125]))]⟩ fun a hS => ?_
    refine wcond hS (b := (r120.2.2 != 0)) kr (fun hb => ?_) (fun hb => ?_)
    ·replace hm := hm.1 hb
     refine regO ?_
     refine oP T hS 2 ⟨[(66, V (.agg #[.int .i64 r120.1.Kind, .int .i64 r120.1.At, .int .i64 r120.1.Err, .slice a121 r120.1.Picks.length c122, .slice a124 r120.1.Proof.length c125])), (67, V (.agg #[.int .i64 0, .int .i64 0, .int .i64 0, .slice none 0 0, .slice none 0 0]))], []⟩ fun a hS => ?_
     refine op1 (call hS kr kr hb10 kr (fun _ _ => rfl) (k10 _ _ r120.1 (⟨0, 0, 0, [], []⟩ : Api_Verdict) a121 c122 a124 c125 none 0 none 0 h123 h126 (RS.empty _ _ _) (RS.empty _ _ _)) ?_)
     intro v127 a w128 χ129 hE hp hS
     replace hO := hO.mv hE rfl rfl
     replace hAmb := hAmb.mv hE rfl
     replace h123 := h123.mv hE rfl
     replace h126 := h126.mv hE rfl
     clear hE
     obtain ⟨r130, hr⟩ : ∃ r, verdict_Same r120.1 (⟨0, 0, 0, [], []⟩ : Api_Verdict) = r := ⟨_, rfl⟩
     replace hm := hm r130 hr
     rw [hr] at hp
     clear hr
     subst hp
     refine oP T hS 1 ⟨[(69, B r130)], []⟩ fun a hS => ?_
     rcases Bool.eq_false_or_eq_true r130 with hb | hb
     ·replace hS := hS.lit (t := 69) kr hb
      replace hm := hm.1 hb
      refine op1 (call hS kr kr hb6 kr (fun _ _ => rfl) (k6 _ _ hAmb) ?_)
      intro v131 a w132 χ133 hE hp hS
      replace hO := hO.mv hE rfl rfl
      replace hAmb := hAmb.mv hE rfl
      clear hE
      obtain ⟨r134, hr⟩ : ∃ r, law39_awake = r := ⟨_, rfl⟩
      replace hm := hm r134 hr
      rw [hr] at hp
      clear hr
      subst hp
      refine eP T hS ⟨[(4, B r134)], []⟩ fun a hS => ?_
      refine wret ?_
      exact fin T hS hO (fun c => c) rfl (r := [.bool r134]) kr (fun χ' hM hC => ⟨r134, hm, rfl⟩)
     ·replace hS := hS.lit (t := 69) kr hb
      replace hm := hm.2 hb
      refine eP T hS ⟨[(4, B false)], []⟩ fun a hS => ?_
      refine wret ?_
      exact fin T hS hO (fun c => c) rfl (r := [.bool false]) kr (fun χ' hM hC => ⟨false, hm, rfl⟩)
    ·replace hm := hm.2 hb
     refine wskip ?_
     refine regO ?_
     refine oP T hS 1 ⟨[(10, Pt 11 0), (73, V (.agg #[.int .i64 r120.1.Kind, .int .i64 r120.1.At, .int .i64 r120.1.Err, .slice a121 r120.1.Picks.length c122, .slice a124 r120.1.Proof.length c125]))], [(11, (26, [I r120.1.Kind, I r120.1.At, I r120.1.Err, Sl a121 r120.1.Picks c122, Sl a124 r120.1.Proof c125]))]⟩ fun a hS => ?_
     refine op1 (call hS kr kr hb7 kr (fun _ _ => rfl) (k7 _ _ r120.1 a121 c122 a124 c125 h123 h126 hAmb) ?_)
     intro v135 a w136 χ137 hE hp hS
     replace hO := hO.mv hE rfl rfl
     replace hAmb := hAmb.mv hE rfl
     replace h123 := h123.mv hE rfl
     replace h126 := h126.mv hE rfl
     clear hE
     obtain ⟨r138, hr⟩ : ∃ r, verdict_Print r120.1 = r := ⟨_, rfl⟩
     replace hm := hm r138 hr
     rw [hr] at hp
     clear hr
     subst hp
     refine eP T hS ⟨[(10, Pt 11 0), (13, Z r138.1), (14, I r138.2)], [(11, (26, [I r120.1.Kind, I r120.1.At, I r120.1.Err, Sl a121 r120.1.Picks c122, Sl a124 r120.1.Proof c125]))]⟩ fun a hS => ?_
     refine regO ?_
     refine oP T hS 1 ⟨[(10, Pt 11 0), (14, I r138.2), (78, Z r138.1)], [(11, (26, [I r120.1.Kind, I r120.1.At, I r120.1.Err, Sl a121 r120.1.Picks c122, Sl a124 r120.1.Proof c125]))]⟩ fun a hS => ?_
     refine op1 (call hS kr kr hb9 kr (fun _ _ => rfl) (k9 _ _ r138.1) ?_)
     intro v139 a w140 χ141 hE hp hS
     replace hO := hO.mv hE rfl rfl
     replace hAmb := hAmb.mv hE rfl
     replace h123 := h123.mv hE rfl
     replace h126 := h126.mv hE rfl
     clear hE
     obtain ⟨a143, c144, a146, c147, hp, h145, h148⟩ := hp
     obtain ⟨r142, hr⟩ : ∃ r, verdict_Parse r138.1 = r := ⟨_, rfl⟩
     replace hm := hm r142 hr
     rw [hr] at hp h145 h148
     clear hr
     subst hp
     replace hm := hm (h145.sm kr)
     replace hm := hm (h148.sm kr)
     refine eM T hS ⟨[(10, Pt 11 0), (14, I r138.2), (15, Pt 16 0), (17, I r142.2.2)], [(11, (26, [I r120.1.Kind, I r120.1.At, I r120.1.Err, Sl a121 r120.1.Picks c122, Sl a124 r120.1.Proof c125])), (16, (26, [I r142.1.Kind, I r142.1.At, I r142.1.Err, Sl a143 r142.1.Picks c144, Sl a146 r142.1.Proof c147]))]⟩ fun ρ a w161 χ162 hS hE hr => ?_
     replace hO := hO.mv hE rfl rfl
     replace hAmb := hAmb.mv hE rfl
     replace h123 := h123.mv hE rfl
     replace h126 := h126.mv hE rfl
     replace h145 := h145.mv hE rfl
     replace h148 := h148.mv hE rfl
     clear hE hr
     refine regO ?_
     refine oP T hS 1 ⟨[(10, Pt 11 0), (14, I r138.2), (15, Pt 16 0), (17, I r142.2.2), (83, V (.agg #[.int .i64 r120.1.Kind, .int .i64 r120.1.At, .int .i64 r120.1.Err, .slice a121 r120.1.Picks.length c122, .slice a124 r120.1.Proof.length c125]))], [(11, (26, [I r120.1.Kind, I r120.1.At, I r120.1.Err, Sl a121 r120.1.Picks c122, Sl a124 r120.1.Proof c125])), (16, (26, [I r142.1.Kind, I r142.1.At, I r142.1.Err, Sl a143 r142.1.Picks c144, Sl a146 r142.1.Proof c147]))]⟩ fun a hS => ?_
     refine op1 (call hS kr kr hb8 kr (fun _ _ => rfl) (k8 _ _ r120.1 a121 c122 a124 c125 h123 h126) ?_)
     intro v149 a w150 χ151 hE hp hS
     replace hO := hO.mv hE rfl rfl
     replace hAmb := hAmb.mv hE rfl
     replace h123 := h123.mv hE rfl
     replace h126 := h126.mv hE rfl
     replace h145 := h145.mv hE rfl
     replace h148 := h148.mv hE rfl
     clear hE
     obtain ⟨r152, hr⟩ : ∃ r, verdict_Check r120.1 = r := ⟨_, rfl⟩
     replace hm := hm r152 hr
     rw [hr] at hp
     clear hr
     subst hp
     refine oP T hS 10 ⟨[(10, Pt 11 0), (15, Pt 16 0), (94, B (((r152 == 0) && (r138.2 == 0)) && (r142.2.2 == 0)))], [(11, (26, [I r120.1.Kind, I r120.1.At, I r120.1.Err, Sl a121 r120.1.Picks c122, Sl a124 r120.1.Proof c125])), (16, (26, [I r142.1.Kind, I r142.1.At, I r142.1.Err, Sl a143 r142.1.Picks c144, Sl a146 r142.1.Proof c147]))]⟩ (sp := [86, 90]) fun a hS => ?_
     rcases Bool.eq_false_or_eq_true (((r152 == 0) && (r138.2 == 0)) && (r142.2.2 == 0)) with hb | hb
     ·replace hS := hS.lit (t := 94) kr hb
      replace hm := hm.1 hb
      refine oP T hS 2 ⟨[(94, B true), (95, V (.agg #[.int .i64 r142.1.Kind, .int .i64 r142.1.At, .int .i64 r142.1.Err, .slice a143 r142.1.Picks.length c144, .slice a146 r142.1.Proof.length c147])), (96, V (.agg #[.int .i64 r120.1.Kind, .int .i64 r120.1.At, .int .i64 r120.1.Err, .slice a121 r120.1.Picks.length c122, .slice a124 r120.1.Proof.length c125]))], []⟩ fun a hS => ?_
      refine op1 (call hS kr kr hb10 kr (fun _ _ => rfl) (k10 _ _ r142.1 r120.1 a143 c144 a146 c147 a121 c122 a124 c125 h145 h148 h123 h126) ?_)
      intro v153 a w154 χ155 hE hp hS
      replace hO := hO.mv hE rfl rfl
      replace hAmb := hAmb.mv hE rfl
      replace h123 := h123.mv hE rfl
      replace h126 := h126.mv hE rfl
      replace h145 := h145.mv hE rfl
      replace h148 := h148.mv hE rfl
      clear hE
      obtain ⟨r156, hr⟩ : ∃ r, verdict_Same r142.1 r120.1 = r := ⟨_, rfl⟩
      replace hm := hm r156 hr
      rw [hr] at hp
      clear hr
      subst hp
      refine oP T hS 2 ⟨[(99, B r156)], []⟩ fun a hS => ?_
      rcases Bool.eq_false_or_eq_true r156 with hb | hb
      ·replace hS := hS.lit (t := 99) kr hb
       replace hm := hm.1 hb
       refine op1 (call hS kr kr hb6 kr (fun _ _ => rfl) (k6 _ _ hAmb) ?_)
       intro v157 a w158 χ159 hE hp hS
       replace hO := hO.mv hE rfl rfl
       replace hAmb := hAmb.mv hE rfl
       clear hE
       obtain ⟨r160, hr⟩ : ∃ r, law39_awake = r := ⟨_, rfl⟩
       replace hm := hm r160 hr
       rw [hr] at hp
       clear hr
       subst hp
       refine eP T hS ⟨[(4, B r160)], []⟩ fun a hS => ?_
       refine wret ?_
       exact fin T hS hO (fun c => c) rfl (r := [.bool r160]) kr (fun χ' hM hC => ⟨r160, hm, rfl⟩)
      ·replace hS := hS.lit (t := 99) kr hb
       replace hm := hm.2 hb
       refine eP T hS ⟨[(4, B false)], []⟩ fun a hS => ?_
       refine wret ?_
       exact fin T hS hO (fun c => c) rfl (r := [.bool false]) kr (fun χ' hM hC => ⟨false, hm, rfl⟩)
     ·replace hS := hS.lit (t := 94) kr hb
      replace hm := hm.2 hb
      refine eP T hS ⟨[(4, B false)], []⟩ fun a hS => ?_
      refine wret ?_
      exact fin T hS hO (fun c => c) rfl (r := [.bool false]) kr (fun χ' hM hC => ⟨false, hm, rfl⟩)
end Go.Proofs.YtkgcdoeldilhaaaDoor
