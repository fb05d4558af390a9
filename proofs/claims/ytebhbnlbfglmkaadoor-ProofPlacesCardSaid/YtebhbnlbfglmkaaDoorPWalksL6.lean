/- Walks: each function returns what its condition asks. Condition: the contracts of its callees, handed in. -/
import Derived.Test.YtebhbnlbfglmkaaDoorPWalksS
set_option linter.all false
namespace Go.Proofs.YtebhbnlbfglmkaaDoor
open Go Go.Sv
set_option maxHeartbeats 1000000
/-- replevin/replevinlaw10.ProofPlaces -/
theorem W6 (k12 : S12) (k21 : S21) (k7 : S7) (k8 : S8) (w0 : World) (χ0 : Nat → Nat) (s_ : List UInt8) (behind : List UInt8) (Q : Bool → Prop) (hm : VC6 s_ behind Q) (hAmb : Amb w0 χ0) :
  Ret Tryd.prog 6 #[.string (bs s_), .string (bs behind)] xnone w0 χ0 (fun w χ' v => ∃ r, Q r ∧ v = .bool r) := by
 unfold VC6 at hm
 refine enter Tryd.func6 rfl (vals := [.string (bs s_), .string (bs behind)]) kr ?_
 intro ρ a hS hO hM
 replace hAmb := hAmb.m0 hM
 clear hM
 refine rP T hS ⟨[(0, Z s_), (1, Z behind)], []⟩ fun a hS => ?_
 refine wseq ?_
 refine rP T hS ⟨[(0, Z s_), (1, Z behind), (22, B ((decide (((s_.length : Nat) : Int) > 3000)) || (decide (((behind.length : Nat) : Int) > 300))))], []⟩ (sp := [18]) fun a hS => ?_
 refine wcond hS (b := ((decide (((s_.length : Nat) : Int) > 3000)) || (decide (((behind.length : Nat) : Int) > 300)))) kr (fun hb => ?_) (fun hb => ?_)
 ·replace hm := hm.1 hb
  refine regO ?_
  refine op1 (call hS kr kr hb7 kr (fun _ _ => rfl) (k7 _ _ hAmb) ?_)
  intro v101 a w102 χ103 hE hp hS
  replace hO := hO.mv hE rfl rfl
  replace hAmb := hAmb.mv hE rfl
  clear hE
  obtain ⟨r104, hr⟩ : ∃ r, law10_awake = r := ⟨_, rfl⟩
  replace hm := hm r104 hr
  rw [hr] at hp
  clear hr
  subst hp
  refine eP T hS ⟨[(4, B r104)], []⟩ fun a hS => ?_
  refine wret ?_
  exact fin T hS hO (fun c => c) rfl (r := [.bool r104]) kr (fun χ' hM hC => ⟨r104, hm, rfl⟩)
 ·replace hm := hm.2 hb
  refine wskip ?_
  refine regO ?_
  refine oP T hS 1 ⟨[(0, Z s_), (1, Z behind), (25, Z s_)], []⟩ fun a hS => ?_
  refine op1 (call hS kr kr hb8 kr (fun _ _ => rfl) (k8 _ _ s_) ?_)
  intro v105 a w106 χ107 hE hp hS
  replace hO := hO.mv hE rfl rfl
  replace hAmb := hAmb.mv hE rfl
  clear hE
  obtain ⟨a109, c110, hp, h111⟩ := hp
  obtain ⟨r108, hr⟩ : ∃ r, proof_Parse s_ = r := ⟨_, rfl⟩
  replace hm := hm r108 hr
  rw [hr] at hp h111
  clear hr
  subst hp
  replace hm := hm (h111.sm kr)
  refine eP T hS ⟨[(0, Z s_), (1, Z behind), (5, Sl a109 r108.1 c110), (6, I r108.2.1), (7, I r108.2.2)], []⟩ fun a hS => ?_
  refine wseq ?_
  refine rP T hS ⟨[(0, Z s_), (1, Z behind), (5, Sl a109 r108.1 c110), (6, I r108.2.1), (7, I r108.2.2), (47, B (((decide (r108.2.1 < 0)) || (decide (r108.2.1 > ((s_.length : Nat) : Int)))) || ((r108.2.2 == 0) && (r108.2.1 != ((s_.length : Nat) : Int)))))], []⟩ (sp := [32, 38, 41]) fun a hS => ?_
  refine wcond hS (b := (((decide (r108.2.1 < 0)) || (decide (r108.2.1 > ((s_.length : Nat) : Int)))) || ((r108.2.2 == 0) && (r108.2.1 != ((s_.length : Nat) : Int))))) kr (fun hb => ?_) (fun hb => ?_)
  ·replace hm := hm.1 hb
   refine rP T hS ⟨[(4, B false)], []⟩ fun a hS => ?_
   refine wret ?_
   exact fin T hS hO (fun c => c) rfl (r := [.bool false]) kr (fun χ' hM hC => ⟨false, hm, rfl⟩)
  ·replace hm := hm.2 hb
   refine wskip ?_
   refine wseq ?_
   refine rP T hS ⟨[(0, Z s_), (1, Z behind), (5, Sl a109 r108.1 c110), (6, I r108.2.1), (7, I r108.2.2), (49, B (r108.2.2 == 0))], []⟩ fun a hS => ?_
   refine wcond hS (b := (r108.2.2 == 0)) kr (fun hb => ?_) (fun hb => ?_)
   ·replace hm := hm.1 hb
    refine wcut (fun a w => ∃ (ρ : Nat → Nat) (χ : Nat → Nat), VC6_J1 Q ∧ St Tryd.f6.ntmps ⟨[], []⟩ ρ a w χ ∧ Old w0 χ0 w χ ∧ Amb w χ) ?_ ?_
    ·refine rP T hS ⟨[(5, Sl a109 r108.1 c110), (8, I 0)], []⟩ fun a hS => ?_
     refine wblock ?_
     obtain ⟨I1, μ1, hm0, hm⟩ := hm
     refine wloop (σ := Int) (fun s a w => ∃ (ρ : Nat → Nat) (χ : Nat → Nat), I1 s ∧ St Tryd.f6.ntmps ⟨[(5, Sl a109 r108.1 c110), (8, I s)], []⟩ ρ a w χ ∧ Old w0 χ0 w χ ∧ RS tApi_Step w χ a109 r108.1 c110 ∧ Amb w χ) (fun s => μ1 s) (0) ?_ ?_
     ·exact ⟨ρ, _, hm0, hS.sl _, hO, h111, hAmb⟩
     ·rintro i_117 a w126 ⟨ρ, χ125, hI, hS, hO, h116, hAmb⟩
      replace hm := hm i_117 hI
      clear hI hm0
      refine wseq ?_
      refine rP T hS ⟨[(5, Sl a109 r108.1 c110), (8, I i_117), (53, B (decide (i_117 < ((r108.1.length : Nat) : Int))))], []⟩ fun a hS => ?_
      refine wcond hS (b := decide (i_117 < ((r108.1.length : Nat) : Int))) kr (fun hb => ?_) (fun hb => ?_)
      ·replace hm := hm.1 hb
       refine wskip ?_
       refine wseq ?_
       refine wblock ?_
       refine regO ?_
       refine oP T hS 4 ⟨[(5, Sl a109 r108.1 c110), (8, I i_117), (57, Sl a109 r108.1 c110), (58, I i_117), (60, I (IntKind.i64.wrap (i_117 + 1)))], []⟩ fun a hS => ?_
       obtain ⟨hq, hm⟩ := hm
       refine op1 (slice2 (E := 52) (kl := .i64) (kh := .i64) T hS kr kr kr kr kr h116 kr kr hq.1 hq.2.1 hq.2.2 ?_)
       intro a118 c119 a h120 hS
       clear hq
       refine op1 (call hS kr kr hb12 kr (fun _ _ => rfl) (k12 _ _ ((r108.1.take (IntKind.i64.wrap (i_117 + 1)).toNat).drop i_117.toNat) a118 c119 h120) ?_)
       intro v121 a w122 χ123 hE hp hS
       replace hO := hO.mv hE rfl rfl
       replace h116 := h116.mv hE rfl
       replace hAmb := hAmb.mv hE rfl
       replace h120 := h120.mv hE rfl
       clear hE
       obtain ⟨r124, hr⟩ : ∃ r, proof_Check ((r108.1.take (IntKind.i64.wrap (i_117 + 1)).toNat).drop i_117.toNat) = r := ⟨_, rfl⟩
       replace hm := hm r124 hr
       rw [hr] at hp
       clear hr
       subst hp
       refine eP T hS ⟨[(5, Sl a109 r108.1 c110), (8, I i_117), (9, I r124.1), (10, I r124.2)], []⟩ fun a hS => ?_
       refine rP T hS ⟨[(5, Sl a109 r108.1 c110), (8, I i_117), (70, B ((r124.1 != 1) || (r124.2 != 0)))], []⟩ (sp := [67]) fun a hS => ?_
       refine wcond hS (b := ((r124.1 != 1) || (r124.2 != 0))) kr (fun hb => ?_) (fun hb => ?_)
       ·replace hm := hm.1 hb
        refine rP T hS ⟨[(4, B false)], []⟩ fun a hS => ?_
        refine wret ?_
        exact fin T hS hO (fun c => c) rfl (r := [.bool false]) kr (fun χ' hM hC => ⟨false, hm, rfl⟩)
       ·replace hm := hm.2 hb
        refine wskip ?_
        refine region (eP T hS ⟨[(5, Sl a109 r108.1 c110), (8, I (IntKind.i64.wrap (i_117 + 1)))], []⟩ fun a hS => ?_)
        exact ⟨IntKind.i64.wrap (i_117 + 1), ⟨ρ, _, hm.1, hS.sl _, hO, h116, hAmb⟩, hm.2⟩
      ·replace hm := hm.2 hb
       refine wexit (by rfl) ?_
       exact ⟨ρ, _, hm, hS.sl _, hO, hAmb⟩
    ·rintro a w128 ⟨ρ, χ127, hm, hS, hO, hAmb⟩
     unfold VC6_J1 at hm
     refine regO ?_
     refine op1 (call hS kr kr hb7 kr (fun _ _ => rfl) (k7 _ _ hAmb) ?_)
     intro v112 a w113 χ114 hE hp hS
     replace hO := hO.mv hE rfl rfl
     replace hAmb := hAmb.mv hE rfl
     clear hE
     obtain ⟨r115, hr⟩ : ∃ r, law10_awake = r := ⟨_, rfl⟩
     replace hm := hm r115 hr
     rw [hr] at hp
     clear hr
     subst hp
     refine eP T hS ⟨[(4, B r115)], []⟩ fun a hS => ?_
     refine wret ?_
     exact fin T hS hO (fun c => c) rfl (r := [.bool r115]) kr (fun χ' hM hC => ⟨r115, hm, rfl⟩)
   ·replace hm := hm.2 hb
    refine wskip ?_
    refine regO ?_
    refine oP T hS 1 ⟨[(0, Z s_), (1, Z behind), (5, Sl a109 r108.1 c110), (6, I r108.2.1), (7, I r108.2.2), (73, Z s_)], []⟩ fun a hS => ?_
    obtain ⟨hq, hm⟩ := hm
    refine op1 (sadd (p := s_) (q := ([10] : List UInt8)) hS kr kr kr kr hq ?_)
    intro a hS
    clear hq
    refine oP T hS 1 ⟨[(0, Z s_), (5, Sl a109 r108.1 c110), (6, I r108.2.1), (7, I r108.2.2), (74, Z (s_ ++ ([10] : List UInt8))), (75, Z behind)], []⟩ fun a hS => ?_
    obtain ⟨hq, hm⟩ := hm
    refine op1 (sadd (p := (s_ ++ ([10] : List UInt8))) (q := behind) hS kr kr kr kr hq ?_)
    intro a hS
    clear hq
    refine op1 (call hS kr kr hb8 kr (fun _ _ => rfl) (k8 _ _ ((s_ ++ ([10] : List UInt8)) ++ behind)) ?_)
    intro v129 a w130 χ131 hE hp hS
    replace hO := hO.mv hE rfl rfl
    replace hAmb := hAmb.mv hE rfl
    replace h111 := h111.mv hE rfl
    clear hE
    obtain ⟨a133, c134, hp, h135⟩ := hp
    obtain ⟨r132, hr⟩ : ∃ r, proof_Parse ((s_ ++ ([10] : List UInt8)) ++ behind) = r := ⟨_, rfl⟩
    replace hm := hm r132 hr
    rw [hr] at hp h135
    clear hr
    subst hp
    replace hm := hm (h135.sm kr)
    refine eP T hS ⟨[(0, Z s_), (5, Sl a109 r108.1 c110), (6, I r108.2.1), (7, I r108.2.2), (12, I r132.2.1), (13, I r132.2.2)], []⟩ fun a hS => ?_
    refine regO ?_
    refine oP T hS 1 ⟨[(5, Sl a109 r108.1 c110), (6, I r108.2.1), (7, I r108.2.2), (12, I r132.2.1), (13, I r132.2.2), (81, Z s_)], []⟩ fun a hS => ?_
    obtain ⟨hq, hm⟩ := hm
    refine op1 (call hS kr kr hb21 kr (fun _ _ => rfl) (k21 _ _ s_ hq) ?_)
    intro v136 a w137 χ138 hE hp hS
    clear hq
    replace hO := hO.mv hE rfl rfl
    replace hAmb := hAmb.mv hE rfl
    replace h111 := h111.mv hE rfl
    clear hE
    obtain ⟨a140, c141, hp, h142⟩ := hp
    obtain ⟨r139, hr⟩ : ∃ r, token_Lines s_ = r := ⟨_, rfl⟩
    replace hm := hm r139 hr
    rw [hr] at hp h142
    clear hr
    subst hp
    replace hm := hm (h142.sm kr)
    refine eP T hS ⟨[(5, Sl a109 r108.1 c110), (6, I r108.2.1), (7, I r108.2.2), (12, I r132.2.1), (13, I r132.2.2), (14, Sl a140 r139 c141)], []⟩ fun a hS => ?_
    refine regO ?_
    refine oP T hS 19 ⟨[(101, B ((((((r108.1.length : Nat) : Int) == 0) && (r132.2.1 == r108.2.1)) && (r132.2.2 == r108.2.2)) && (decide (((r139.length : Nat) : Int) > 0))))], []⟩ (sp := [86, 91, 96]) fun a hS => ?_
    rcases Bool.eq_false_or_eq_true ((((((r108.1.length : Nat) : Int) == 0) && (r132.2.1 == r108.2.1)) && (r132.2.2 == r108.2.2)) && (decide (((r139.length : Nat) : Int) > 0))) with hb | hb
    ·replace hS := hS.lit (t := 101) kr hb
     replace hm := hm.1 hb
     refine op1 (call hS kr kr hb7 kr (fun _ _ => rfl) (k7 _ _ hAmb) ?_)
     intro v143 a w144 χ145 hE hp hS
     replace hO := hO.mv hE rfl rfl
     replace hAmb := hAmb.mv hE rfl
     clear hE
     obtain ⟨r146, hr⟩ : ∃ r, law10_awake = r := ⟨_, rfl⟩
     replace hm := hm r146 hr
     rw [hr] at hp
     clear hr
     subst hp
     refine eP T hS ⟨[(4, B r146)], []⟩ fun a hS => ?_
     refine wret ?_
     exact fin T hS hO (fun c => c) rfl (r := [.bool r146]) kr (fun χ' hM hC => ⟨r146, hm, rfl⟩)
    ·replace hS := hS.lit (t := 101) kr hb
     replace hm := hm.2 hb
     refine eP T hS ⟨[(4, B false)], []⟩ fun a hS => ?_
     refine wret ?_
     exact fin T hS hO (fun c => c) rfl (r := [.bool false]) kr (fun χ' hM hC => ⟨false, hm, rfl⟩)
end Go.Proofs.YtebhbnlbfglmkaaDoor
