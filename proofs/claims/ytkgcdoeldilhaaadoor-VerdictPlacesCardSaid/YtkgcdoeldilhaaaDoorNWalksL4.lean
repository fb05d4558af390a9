/- Walks: each function returns what its condition asks. Condition: the contracts of its callees, handed in. -/
import Derived.Test.YtkgcdoeldilhaaaDoorNWalksS
set_option linter.all false
namespace Go.Proofs.YtkgcdoeldilhaaaDoor
open Go Go.Sv
set_option maxHeartbeats 1000000
/-- replevin/replevinlaw39.VerdictPlaces -/
theorem W4 (k6 : S6) (k9 : S9) (w0 : World) (χ0 : Nat → Nat) (s_ : List UInt8) (Q : Bool → Prop) (hm : VC4 s_ Q) (hAmb : Amb w0 χ0) :
  Ret Tryd.prog 4 #[.string (bs s_)] xnone w0 χ0 (fun w χ' v => ∃ r, Q r ∧ v = .bool r) := by
 unfold VC4 at hm
 refine enter Tryd.func4 rfl (vals := [.string (bs s_)]) kr ?_
 intro ρ a hS hO hM
 replace hAmb := hAmb.m0 hM
 clear hM
 refine rP T hS ⟨[(0, Z s_)], []⟩ fun a hS => ?_
 refine wseq ?_
 refine rP T hS ⟨[(0, Z s_), (11, B (decide (((s_.length : Nat) : Int) > 3000)))], []⟩ fun a hS => ?_
 refine wcond hS (b := decide (((s_.length : Nat) : Int) > 3000)) kr (fun hb => ?_) (fun hb => ?_)
 ·replace hm := hm.1 hb
  refine regO ?_
  refine op1 (call hS kr kr hb6 kr (fun _ _ => rfl) (k6 _ _ hAmb) ?_)
  intro v101 a w102 χ103 hE hp hS
  replace hO := hO.mv hE rfl rfl
  replace hAmb := hAmb.mv hE rfl
  clear hE
  obtain ⟨r104, hr⟩ : ∃ r, law39_awake = r := ⟨_, rfl⟩
  replace hm := hm r104 hr
  rw [hr] at hp
  clear hr
  subst hp
  refine eP T hS ⟨[(2, B r104)], []⟩ fun a hS => ?_
  refine wret ?_
  exact fin T hS hO (fun c => c) rfl (r := [.bool r104]) kr (fun χ' hM hC => ⟨r104, hm, rfl⟩)
 ·replace hm := hm.2 hb
  refine wskip ?_
  refine regO ?_
  refine oP T hS 1 ⟨[(0, Z s_), (14, Z s_)], []⟩ fun a hS => ?_
  refine op1 (call hS kr kr hb9 kr (fun _ _ => rfl) (k9 _ _ s_) ?_)
  intro v105 a w106 χ107 hE hp hS
  replace hO := hO.mv hE rfl rfl
  replace hAmb := hAmb.mv hE rfl
  clear hE
  obtain ⟨a109, c110, a112, c113, hp, h111, h114⟩ := hp
  obtain ⟨r108, hr⟩ : ∃ r, verdict_Parse s_ = r := ⟨_, rfl⟩
  replace hm := hm r108 hr
  rw [hr] at hp h111 h114
  clear hr
  subst hp
  replace hm := hm (h111.sm kr)
  replace hm := hm (h114.sm kr)
  refine eM T hS ⟨[(0, Z s_), (4, I r108.2.1), (5, I r108.2.2)], []⟩ fun ρ a w131 χ132 hS hE hr => ?_
  replace hO := hO.mv hE rfl rfl
  replace hAmb := hAmb.mv hE rfl
  clear hE hr
  refine regO ?_
  refine oP T hS 1 ⟨[(0, Z s_), (4, I r108.2.1), (5, I r108.2.2), (20, Z s_)], []⟩ fun a hS => ?_
  obtain ⟨hq, hm⟩ := hm
  refine op1 (sadd (p := s_) (q := ([10, 10, 99, 32, 97, 32, 114, 101, 109, 97, 114, 107, 10] : List UInt8)) hS kr kr kr kr hq ?_)
  intro a hS
  clear hq
  refine op1 (call hS kr kr hb9 kr (fun _ _ => rfl) (k9 _ _ (s_ ++ ([10, 10, 99, 32, 97, 32, 114, 101, 109, 97, 114, 107, 10] : List UInt8))) ?_)
  intro v115 a w116 χ117 hE hp hS
  replace hO := hO.mv hE rfl rfl
  replace hAmb := hAmb.mv hE rfl
  clear hE
  obtain ⟨a119, c120, a122, c123, hp, h121, h124⟩ := hp
  obtain ⟨r118, hr⟩ : ∃ r, verdict_Parse (s_ ++ ([10, 10, 99, 32, 97, 32, 114, 101, 109, 97, 114, 107, 10] : List UInt8)) = r := ⟨_, rfl⟩
  replace hm := hm r118 hr
  rw [hr] at hp h121 h124
  clear hr
  subst hp
  replace hm := hm (h121.sm kr)
  replace hm := hm (h124.sm kr)
  refine eM T hS ⟨[(0, Z s_), (4, I r108.2.1), (5, I r108.2.2), (7, I r118.2.1), (8, I r118.2.2)], []⟩ fun ρ a w129 χ130 hS hE hr => ?_
  replace hO := hO.mv hE rfl rfl
  replace hAmb := hAmb.mv hE rfl
  clear hE hr
  refine wseq ?_
  refine rP T hS ⟨[(5, I r108.2.2), (8, I r118.2.2), (54, B (((decide (r108.2.1 < 0)) || (decide (r108.2.1 > ((s_.length : Nat) : Int)))) || ((r108.2.2 == 0) && (((r108.2.1 != ((s_.length : Nat) : Int)) || (r118.2.2 != 0)) || (r118.2.1 != (IntKind.i64.wrap (((s_.length : Nat) : Int) + 13)))))))], []⟩ (sp := [28, 34, 37, 42, 46]) fun a hS => ?_
  refine wcond hS (b := (((decide (r108.2.1 < 0)) || (decide (r108.2.1 > ((s_.length : Nat) : Int)))) || ((r108.2.2 == 0) && (((r108.2.1 != ((s_.length : Nat) : Int)) || (r118.2.2 != 0)) || (r118.2.1 != (IntKind.i64.wrap (((s_.length : Nat) : Int) + 13))))))) kr (fun hb => ?_) (fun hb => ?_)
  ·replace hm := hm.1 hb
   refine rP T hS ⟨[(2, B false)], []⟩ fun a hS => ?_
   refine wret ?_
   exact fin T hS hO (fun c => c) rfl (r := [.bool false]) kr (fun χ' hM hC => ⟨false, hm, rfl⟩)
  ·replace hm := hm.2 hb
   refine wskip ?_
   refine regO ?_
   refine oP T hS 6 ⟨[(60, B ((r108.2.2 == 0) == (r118.2.2 == 0)))], []⟩ fun a hS => ?_
   rcases Bool.eq_false_or_eq_true ((r108.2.2 == 0) == (r118.2.2 == 0)) with hb | hb
   ·replace hS := hS.lit (t := 60) kr hb
    replace hm := hm.1 hb
    refine op1 (call hS kr kr hb6 kr (fun _ _ => rfl) (k6 _ _ hAmb) ?_)
    intro v125 a w126 χ127 hE hp hS
    replace hO := hO.mv hE rfl rfl
    replace hAmb := hAmb.mv hE rfl
    clear hE
    obtain ⟨r128, hr⟩ : ∃ r, law39_awake = r := ⟨_, rfl⟩
    replace hm := hm r128 hr
    rw [hr] at hp
    clear hr
    subst hp
    refine eP T hS ⟨[(2, B r128)], []⟩ fun a hS => ?_
    refine wret ?_
    exact fin T hS hO (fun c => c) rfl (r := [.bool r128]) kr (fun χ' hM hC => ⟨r128, hm, rfl⟩)
   ·replace hS := hS.lit (t := 60) kr hb
    replace hm := hm.2 hb
    refine eP T hS ⟨[(2, B false)], []⟩ fun a hS => ?_
    refine wret ?_
    exact fin T hS hO (fun c => c) rfl (r := [.bool false]) kr (fun χ' hM hC => ⟨false, hm, rfl⟩)
end Go.Proofs.YtkgcdoeldilhaaaDoor
