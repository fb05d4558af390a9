/- Walks: each function returns what its condition asks. Condition: the contracts of its callees, handed in. -/
import Derived.Test.YtebhbnlbfglmkaaDoorPWalksS
set_option linter.all false
namespace Go.Proofs.YtebhbnlbfglmkaaDoor
open Go Go.Sv
set_option maxHeartbeats 1000000
/-- replevin/replevinlaw10.ProofReads -/
theorem W3 (k10 : S10) (k7 : S7) (k8 : S8) (k9 : S9) (w0 : World) (χ0 : Nat → Nat) (s_ : List UInt8) (Q : Bool → Prop) (hm : VC3 s_ Q) (hAmb : Amb w0 χ0) :
  Ret Tryd.prog 3 #[.string (bs s_)] xnone w0 χ0 (fun w χ' v => ∃ r, Q r ∧ v = .bool r) := by
 unfold VC3 at hm
 refine enter Tryd.func3 rfl (vals := [.string (bs s_)]) kr ?_
 intro ρ a hS hO hM
 replace hAmb := hAmb.m0 hM
 clear hM
 refine rP T hS ⟨[(0, Z s_)], []⟩ fun a hS => ?_
 refine wseq ?_
 refine rP T hS ⟨[(0, Z s_), (11, B (decide (((s_.length : Nat) : Int) > 3000)))], []⟩ fun a hS => ?_
 refine wcond hS (b := decide (((s_.length : Nat) : Int) > 3000)) kr (fun hb => ?_) (fun hb => ?_)
 ·replace hm := hm.1 hb
  refine regO ?_
  refine op1 (call hS kr kr hb7 kr (fun _ _ => rfl) (k7 _ _ hAmb) ?_)
  intro v101 a w102 χ103 hE hp hS
  replace hO := hO.mv hE rfl rfl
  replace hAmb := hAmb.mv hE rfl
  clear hE
  obtain ⟨r104, hr⟩ : ∃ r, law10_awake = r := ⟨_, rfl⟩
  replace hm := hm r104 hr
  rw [hr] at hp
  clear hr
  subst hp
  refine eP T hS ⟨[(2, B r104)], []⟩ fun a hS => ?_
  refine wret ?_
  exact fin T hS hO (fun c => c) rfl (r := [.bool r104]) kr (fun χ' hM hC => ⟨r104, hm, rfl⟩)
 ·replace hm := hm.2 hb
  refine wskip ?_
  refine regO ?_
  refine oP T hS 1 ⟨[(0, Z s_), (14, Z s_)], []⟩ fun a hS => ?_
  refine op1 (call hS kr kr hb8 kr (fun _ _ => rfl) (k8 _ _ s_) ?_)
  intro v105 a w106 χ107 hE hp hS
  replace hO := hO.mv hE rfl rfl
  replace hAmb := hAmb.mv hE rfl
  clear hE
  obtain ⟨a109, c110, hp, h111⟩ := hp
  obtain ⟨r108, hr⟩ : ∃ r, proof_Parse s_ = r := ⟨_, rfl⟩
  replace hm := hm r108 hr
  rw [hr] at hp h111
  clear hr
  subst hp
  replace hm := hm (h111.sm kr)
  refine eP T hS ⟨[(0, Z s_), (3, Sl a109 r108.1 c110), (4, I r108.2.1), (5, I r108.2.2)], []⟩ fun a hS => ?_
  refine regO ?_
  refine oP T hS 1 ⟨[(3, Sl a109 r108.1 c110), (4, I r108.2.1), (5, I r108.2.2), (20, Z s_)], []⟩ fun a hS => ?_
  refine op1 (call hS kr kr hb9 kr (fun _ _ => rfl) (k9 _ _ s_) ?_)
  intro v112 a w113 χ114 hE hp hS
  replace hO := hO.mv hE rfl rfl
  replace hAmb := hAmb.mv hE rfl
  replace h111 := h111.mv hE rfl
  clear hE
  obtain ⟨a116, c117, hp, h118⟩ := hp
  obtain ⟨r115, hr⟩ : ∃ r, ref10_Parse s_ = r := ⟨_, rfl⟩
  replace hm := hm r115 hr
  rw [hr] at hp h118
  clear hr
  subst hp
  replace hm := hm (h118.sm kr)
  refine eP T hS ⟨[(3, Sl a109 r108.1 c110), (4, I r108.2.1), (5, I r108.2.2), (6, Sl a116 r115.1 c117), (7, I r115.2.1), (8, I r115.2.2)], []⟩ fun a hS => ?_
  refine regO ?_
  refine oP T hS 2 ⟨[(4, I r108.2.1), (5, I r108.2.2), (7, I r115.2.1), (8, I r115.2.2), (25, Sl a109 r108.1 c110), (26, Sl a116 r115.1 c117)], []⟩ fun a hS => ?_
  refine op1 (call hS kr kr hb10 kr (fun _ _ => rfl) (k10 _ _ r108.1 r115.1 a109 c110 a116 c117 h111 h118) ?_)
  intro v119 a w120 χ121 hE hp hS
  replace hO := hO.mv hE rfl rfl
  replace hAmb := hAmb.mv hE rfl
  replace h111 := h111.mv hE rfl
  replace h118 := h118.mv hE rfl
  clear hE
  obtain ⟨r122, hr⟩ : ∃ r, ref10_Same r108.1 r115.1 = r := ⟨_, rfl⟩
  replace hm := hm r122 hr
  rw [hr] at hp
  clear hr
  subst hp
  refine oP T hS 11 ⟨[(38, B ((r122 && (r108.2.1 == r115.2.1)) && (r108.2.2 == r115.2.2)))], []⟩ (sp := [28, 33]) fun a hS => ?_
  rcases Bool.eq_false_or_eq_true ((r122 && (r108.2.1 == r115.2.1)) && (r108.2.2 == r115.2.2)) with hb | hb
  ·replace hS := hS.lit (t := 38) kr hb
   replace hm := hm.1 hb
   refine op1 (call hS kr kr hb7 kr (fun _ _ => rfl) (k7 _ _ hAmb) ?_)
   intro v123 a w124 χ125 hE hp hS
   replace hO := hO.mv hE rfl rfl
   replace hAmb := hAmb.mv hE rfl
   clear hE
   obtain ⟨r126, hr⟩ : ∃ r, law10_awake = r := ⟨_, rfl⟩
   replace hm := hm r126 hr
   rw [hr] at hp
   clear hr
   subst hp
   refine eP T hS ⟨[(2, B r126)], []⟩ fun a hS => ?_
   refine wret ?_
   exact fin T hS hO (fun c => c) rfl (r := [.bool r126]) kr (fun χ' hM hC => ⟨r126, hm, rfl⟩)
  ·replace hS := hS.lit (t := 38) kr hb
   replace hm := hm.2 hb
   refine eP T hS ⟨[(2, B false)], []⟩ fun a hS => ?_
   refine wret ?_
   exact fin T hS hO (fun c => c) rfl (r := [.bool false]) kr (fun χ' hM hC => ⟨false, hm, rfl⟩)
end Go.Proofs.YtebhbnlbfglmkaaDoor
