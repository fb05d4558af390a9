/- Walks: each function returns what its condition asks. Condition: the contracts of its callees, handed in. -/
import Derived.Test.YtojdelnnjhbgbaaZWalksS
set_option linter.all false
namespace Go.Proofs.Ytojdelnnjhbgbaa
open Go Go.Sv
set_option maxHeartbeats 1000000
theorem W4 (k16 : S16) (k18 : S18) (k19 : S19) (k8 : S8) (w0 : World) (χ0 : Nat → Nat) (l_ : List Api_Event) (ops : List Int) (a1 : Option Addr) (c1 : Nat) (a2 : Option Addr) (c2 : Nat) (Q : Bool → Prop) (hm : VC4 l_ ops Q) (h1 : RS tApi_Event w0 χ0 a1 l_ c1) (h2 : RS tI w0 χ0 a2 ops c2) :
  Ret Try.prog 4 #[.slice a1 l_.length c1, .slice a2 ops.length c2] xnone w0 χ0 (fun w χ' v => ∃ r, Q r ∧ v = .bool r) := by
 unfold VC4 at hm
 replace hm := hm (h1.sm kr)
 replace hm := hm (h2.sm kr)
 refine enter Try.func4 rfl (vals := [.slice a1 l_.length c1, .slice a2 ops.length c2]) kr ?_
 intro ρ a hS hO hM
 replace h1 := h1.m0 hM
 replace h2 := h2.m0 hM
 clear hM
 refine rP T hS ⟨[(0, Sl a1 l_ c1), (1, Sl a2 ops c2)], []⟩ fun a hS => ?_
 refine wseq ?_
 refine rP T hS ⟨[(0, Sl a1 l_ c1), (1, Sl a2 ops c2), (12, B ((decide ((lN l_) > 60)) || (decide ((lN ops) > 60))))], []⟩ (sp := [8]) fun a hS => ?_
 refine wcond hS (b := ((decide ((lN l_) > 60)) || (decide ((lN ops) > 60)))) kr (fun hb => ?_) (fun hb => ?_)
 ·replace hm := hm.1 hb
  refine regO ?_
  refine op1 (call hS kr kr hb8 kr (fun _ _ => rfl) (k8 _ _) ?_)
  intro v101 a w102 χ103 hE hp hS
  replace hO := hO.mv hE rfl rfl
  replace h1 := h1.mv hE rfl
  replace h2 := h2.mv hE rfl
  obtain ⟨r104, hr⟩ : ∃ r, law41_awake = r := ⟨_, rfl⟩
  replace hm := hm r104 hr
  rw [hr] at hp
  clear hr
  subst hp
  refine eP T hS ⟨[(4, B r104)], []⟩ fun a hS => ?_
  refine wret ?_
  exact fin T hS hO (fun c => c) rfl (r := [.bool r104]) kr (fun χ' hM hC => ⟨r104, hm, rfl⟩)
 replace hm := hm.2 hb
 refine wskip ?_
 refine regO ?_
 refine oP T hS 2 ⟨[(0, Sl a1 l_ c1), (1, Sl a2 ops c2), (14, Sl a1 l_ c1), (15, Sl a2 ops c2)], []⟩ fun a hS => ?_
 obtain ⟨hq, hm⟩ := hm
 refine op1 (call hS kr kr hb18 kr (fun _ _ => rfl) (k18 _ _ l_ ops a1 c1 a2 c2 hq h1 h2) ?_)
 intro v105 a w106 χ107 hE hp hS
 replace hO := hO.mv hE rfl rfl
 replace h1 := h1.mv hE rfl
 replace h2 := h2.mv hE rfl
 obtain ⟨a109, c110, hp, h111⟩ := hp
 obtain ⟨r108, hr⟩ : ∃ r, shrink_Without l_ ops = r := ⟨_, rfl⟩
 replace hm := hm r108 hr
 rw [hr] at hp h111
 clear hr
 subst hp
 replace hm := hm (h111.sm kr)
 refine oP T hS 2 ⟨[(16, Sl a109 r108 c110), (17, Sl a1 l_ c1), (18, Sl a2 ops c2)], []⟩ fun a hS => ?_
 obtain ⟨hq, hm⟩ := hm
 refine op1 (call hS kr kr hb19 kr (fun _ _ => rfl) (k19 _ _ l_ ops a1 c1 a2 c2 hq h1 h2) ?_)
 intro v112 a w113 χ114 hE hp hS
 replace hO := hO.mv hE rfl rfl
 replace h1 := h1.mv hE rfl
 replace h2 := h2.mv hE rfl
 replace h111 := h111.mv hE rfl
 obtain ⟨a116, c117, hp, h118⟩ := hp
 obtain ⟨r115, hr⟩ : ∃ r, ref41_Without l_ ops = r := ⟨_, rfl⟩
 replace hm := hm r115 hr
 rw [hr] at hp h118
 clear hr
 subst hp
 replace hm := hm (h118.sm kr)
 refine op1 (call hS kr kr hb16 kr (fun _ _ => rfl) (k16 _ _ r108 r115 a109 c110 a116 c117 h111 h118) ?_)
 intro v119 a w120 χ121 hE hp hS
 replace hO := hO.mv hE rfl rfl
 replace h1 := h1.mv hE rfl
 replace h2 := h2.mv hE rfl
 replace h111 := h111.mv hE rfl
 replace h118 := h118.mv hE rfl
 obtain ⟨r122, hr⟩ : ∃ r, ref25_Same r108 r115 = r := ⟨_, rfl⟩
 replace hm := hm r122 hr
 rw [hr] at hp
 clear hr
 subst hp
 refine oP T hS 1 ⟨[(21, B r122)], []⟩ fun a hS => ?_
 rcases Bool.eq_false_or_eq_true r122 with hb | hb
 ·replace hS := hS.lit (t := 21) kr hb
  replace hm := hm.1 hb
  refine op1 (call hS kr kr hb8 kr (fun _ _ => rfl) (k8 _ _) ?_)
  intro v123 a w124 χ125 hE hp hS
  replace hO := hO.mv hE rfl rfl
  obtain ⟨r126, hr⟩ : ∃ r, law41_awake = r := ⟨_, rfl⟩
  replace hm := hm r126 hr
  rw [hr] at hp
  clear hr
  subst hp
  refine eP T hS ⟨[(4, B r126)], []⟩ fun a hS => ?_
  refine wret ?_
  exact fin T hS hO (fun c => c) rfl (r := [.bool r126]) kr (fun χ' hM hC => ⟨r126, hm, rfl⟩)
 replace hS := hS.lit (t := 21) kr hb
 replace hm := hm.2 hb
 refine eP T hS ⟨[(4, B false)], []⟩ fun a hS => ?_
 refine wret ?_
 exact fin T hS hO (fun c => c) rfl (r := [.bool false]) kr (fun χ' hM hC => ⟨false, hm, rfl⟩)
end Go.Proofs.Ytojdelnnjhbgbaa
